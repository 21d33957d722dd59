/- Parts of the proof of DealDecides_holds: the texts Shq0 Shf1 Shp Shq1 Shq2 Shf2 Shf3 Shf7. -/
import Derived.LaidEqlPtr
import Derived.Deep.RegionWith
import Derived.Lib.SliceRun
import Derived.Test.YtahapblgmehngaaGreatDoorProg
import Derived.Test.YtahapblgmehngaaGreatDoorE15
set_option linter.unusedSimpArgs false
set_option linter.unusedVariables false
set_option linter.unnecessarySimpa false
set_option maxRecDepth 100000
set_option maxHeartbeats 64000000
namespace Go.Dr
open Go Go.RowKit
theorem run_neq_same {P : Program} (w : World) {tp te : TypeId} {j : TypeInfo} (a : Addr) (hp : P.underlying tp = some (.pointer te)) (hte : P.info? te = some j) :
  (binOp .neq tp (.pointer (some a)) (.pointer (some a))).run P w = .ok (.bool false) w := by
 have h : ∀ d : Nat, (Op.equalIn (d + 1) tp (.pointer (some a)) (.pointer (some a))).run P w = .ok true w := fun d => by
  simp [Op.equalIn, run_underlying hp, sizeOf, typeInfo, hte, run_sameAddr_same]
 simp only [binOp];simp [Op.equal, Op.maxDepth, h 9999]
theorem run_neq_other {P : Program} (w : World) {tp te : TypeId} {j : TypeInfo} {a b : Addr} {ca cb : Array Value} {ta tb : TypeId} (hp : P.underlying tp = some (.pointer te)) (hte : P.info? te = some j) (hsz : j.size ≠ 0)
  (hne : a ≠ b) (ha : w.heap[a.block]? = some (.cells ca ta (0, 0))) (hb : w.heap[b.block]? = some (.cells cb tb (0, 0))) :
  (binOp .neq tp (.pointer (some a)) (.pointer (some b))).run P w = .ok (.bool true) w := by
 have h : ∀ d : Nat, (Op.equalIn (d + 1) tp (.pointer (some a)) (.pointer (some b))).run P w = .ok false w := fun d => by
  simp [Op.equalIn, run_underlying hp, sizeOf, typeInfo, hte, hsz, run_sameAddr_other w hne ha hb]
 simp only [binOp];simp [Op.equal, Op.maxDepth, h 9999]
end Go.Dr
namespace Go.Proofs.YtahapblgmehngaaGreatDoor
open Go.RowKit Go.Dr
theorem linkSize : (Tryz.prog.info? 97).map (·.size) = some 11 := by kernel_rfl
theorem neq_link {W : World} {x a : Nat} {cx ca : Array Value} (hx : Blk W x 97 cx) (ha : Blk W a 97 ca) (c : Bool) (hc : c = !decide (x = a)) : (binOp .neq 95 (Ptr x) (Ptr a)).run Tryz.prog W = .ok (.bool c) W := by
 obtain ⟨j, hj, hjs⟩ := Option.map_eq_some_iff.1 linkSize;subst hc;by_cases h : x = a
 ·subst h
  rw [decide_eq_true rfl];exact run_neq_same (P := Tryz.prog) W (⟨x, 0, none⟩ : Addr) Tryz.underlying95 hj
 ·rw [decide_eq_false h]
  exact run_neq_other (P := Tryz.prog) W (a := ⟨x, 0, none⟩) (b := ⟨a, 0, none⟩) Tryz.underlying95 hj (by rw [hjs];decide) (by intro e;cases e;exact h rfl) hx ha
open Go.RowKit Go.Dr
theorem out_any (L p q : Nat) (u v : Value) (w : World) (h9 : w.cell? ⟨L, 9, none⟩ = some (Ptr p)) (h10 : w.cell? ⟨L, 10, none⟩ = some (Ptr q)) (hp : p ≠ L) (hq : q ≠ L)
  (k10 : w.cell? ⟨p, 10, none⟩ = some u) (f10 : w.frozen? ⟨p, 10, none⟩ = false) (k9 : w.cell? ⟨q, 9, none⟩ = some v) (f9 : w.frozen? ⟨q, 9, none⟩ = false) :
  Calls Tryz.prog 64 #[Ptr L] w fun e w' => e = .returned (.tuple #[]) ∧ w' = ((w.setCell ⟨p, 10, none⟩ (Ptr q)).setCell ⟨q, 9, none⟩ (Ptr p)).drew := by
 have hp' : ¬ p = L := hp
 have hq' : ¬ q = L := hq
 have hp2 : ¬ L = p := fun e => hp e.symm
 have hq2 : ¬ L = q := fun e => hq e.symm
 have s9 : (w.setCell ⟨p, 10, none⟩ (Ptr q)).cell? ⟨q, 9, none⟩ = some v := by
  rw [World.cell?_setCell_other _ _ _ _ (by intro e;cases e)];exact k9
 go_enter Tryz.func64, Tryz.ntmps64
 go_wp2_with fail
 go_region_held3 (fun w' => w'.cell? ⟨L, 9, none⟩ = some (Ptr p) ∧ w'.cell? ⟨L, 10, none⟩ = some (Ptr q))
  (first | go_keep)
  (fail)
 all_goals
  go_wp2;go_end0
  exact ⟨rfl, rfl⟩
theorem used_any (s L R a : Nat) (u v x y : Value) (w : World) (c3 : w.cell? ⟨s, 3, none⟩ = some (Ptr R)) (r9 : w.cell? ⟨R, 9, none⟩ = some (Ptr a)) (fr9 : w.frozen? ⟨R, 9, none⟩ = false)
  (l9 : w.cell? ⟨L, 9, none⟩ = some u) (fl9 : w.frozen? ⟨L, 9, none⟩ = false) (l10 : w.cell? ⟨L, 10, none⟩ = some v) (fl10 : w.frozen? ⟨L, 10, none⟩ = false) (a10 : w.cell? ⟨a, 10, none⟩ = some x) (fa10 : w.frozen? ⟨a, 10, none⟩ = false)
  (hs : s ≠ L) (hR : R ≠ L) (ha : a ≠ L) (hsa : s ≠ a) (hsR : s ≠ R) :
  Calls Tryz.prog 65 #[Ptr s, Ptr L] w fun e w' => e = .returned (.tuple #[]) ∧ w' = ((((w.setCell ⟨L, 9, none⟩ (Ptr a)).setCell ⟨L, 10, none⟩ (Ptr R)).setCell ⟨a, 10, none⟩ (Ptr L)).setCell ⟨R, 9, none⟩ (Ptr L)).drew := by
 have n1 : ¬ s = L := hs;have n2 : ¬ R = L := hR;have n3 : ¬ a = L := ha;have n4 : ¬ L = s := fun e => hs e.symm
 have n5 : ¬ L = R := fun e => hR e.symm
 have n6 : ¬ L = a := fun e => ha e.symm
 have b10 : (w.setCell ⟨L, 9, none⟩ (Ptr a)).cell? ⟨L, 10, none⟩ = some v := (by rw [World.cell?_setCell_other _ _ _ _ (by intro e;cases e)];exact l10);obtain ⟨w2, ew⟩ : ∃ w2 : World, w2 = ((w.setCell ⟨L, 9, none⟩ (Ptr a)).setCell ⟨L, 10, none⟩ (Ptr R)).drew := ⟨_, rfl⟩
 have far : ∀ (b o : Nat) (z : Value), b ≠ L → w.cell? ⟨b, o, none⟩ = some z → w2.cell? ⟨b, o, none⟩ = some z := fun b o z hb h => by
  rw [ew]
  show (((w.setCell ⟨L, 9, none⟩ (Ptr a)).setCell ⟨L, 10, none⟩ (Ptr R))).cell? ⟨b, o, none⟩ = some z
  rw [World.cell?_setCell_other _ _ _ _ (by intro e;cases e;exact hb rfl), World.cell?_setCell_other _ _ _ _ (by intro e;cases e;exact hb rfl)];exact h
 have d3 := far s 3 _ hs c3;have d9 := far R 9 _ hR r9;have d10 := far a 10 _ ha a10;have g10 : w2.frozen? ⟨a, 10, none⟩ = false := (by rw [ew];simpa using fa10);have g9 : (w2.setCell ⟨a, 10, none⟩ (Ptr L)).frozen? ⟨R, 9, none⟩ = false := (by rw [ew];simpa using fr9);have e3 : (w2.setCell ⟨a, 10, none⟩ (Ptr L)).cell? ⟨s, 3, none⟩ = some (Ptr R) := (by rw [World.cell?_setCell_other _ _ _ _ (by intro e;cases e)];exact d3);have e9 : (w2.setCell ⟨a, 10, none⟩ (Ptr L)).cell? ⟨R, 9, none⟩ = some (Ptr a) := (by rw [World.cell?_setCell_other _ _ _ _ (by intro e;cases e)];exact d9);have HW := Lib.hid ew;go_enter Tryz.func65, Tryz.ntmps65
 go_wp2_with fail
 go_region_held3 (fun w' => w'.cell? ⟨s, 3, none⟩ = some (Ptr R) ∧ w'.cell? ⟨R, 9, none⟩ = some (Ptr a))
  (first | go_keep)
  (fail)
 all_goals
  rw [← HW.out];go_wp2;go_end0
  exact ⟨rfl, rfl⟩
end Go.Proofs.YtahapblgmehngaaGreatDoor
namespace Go.Dr
open Go.RowKit
structure It where
 id : Int
 key : Bytes
 lp : List F
 st : Int
 lf : List F
 body : Bytes
 asked : Int
 came : Int
def It.cost (x : It) : Nat := 64 + x.key.length + x.body.length + fsum x.lf + fsum x.lp
def It.of (id : Int) (q : En) (lp lf : List F) : It := ⟨id, q.key, lp, q.st, lf, q.body, q.asked, q.came⟩
structure Nd where
 b : Nat
 vp : Value
 vf : Value
 x : It
def Nd.k (n : Nd) : K := ⟨n.x.id, n.x.cost, n.x.key, n.vp, n.x.st, n.vf, n.x.body, n.x.asked, n.x.came⟩
def Nd.n (n : Nd) : N := (n.b, n.k)
def Nd.en (n : Nd) : En := ⟨n.x.key, n.vp, n.x.st, n.vf, n.x.body, n.x.asked, n.x.came⟩
def costs (l : List It) : Nat := (l.map It.cost).sum
theorem costs_append (a b : List It) : costs (a ++ b) = costs a + costs b := by simp [costs]
theorem costs_cons (x : It) (l : List It) : costs (x :: l) = x.cost + costs l := by simp [costs]
@[simp] theorem costs_nil : costs [] = 0 := rfl
theorem nd_blocks (l : List Nd) : (l.map Nd.n).map (·.1) = l.map Nd.b := by simp [Nd.n]
abbrev put7 (w : World) (g : Nat) (b0 b1 b2 b3 b4 b5 b6 : Value) : World := (((((((w.setCell ⟨g, 0, none⟩ b0).setCell ⟨g, 1, none⟩ b1).setCell ⟨g, 2, none⟩ b2).setCell ⟨g, 3, none⟩ b3).setCell ⟨g, 4, none⟩ b4).setCell ⟨g, 5, none⟩ b5).setCell ⟨g, 6, none⟩ b6)
theorem Blk.put7 {w : World} {g : Nat} {t : TypeId} {z0 z1 z2 z3 z4 z5 z6 : Value} (h : Blk w g t #[z0, z1, z2, z3, z4, z5, z6]) (b0 b1 b2 b3 b4 b5 b6 : Value) : Blk (put7 w g b0 b1 b2 b3 b4 b5 b6) g t #[b0, b1, b2, b3, b4, b5, b6] := by
 have := ((((((h.set 0 b0).set 1 b1).set 2 b2).set 3 b3).set 4 b4).set 5 b5).set 6 b6
 simpa using this
theorem heap_put7 (w : World) (g : Nat) (b0 b1 b2 b3 b4 b5 b6 : Value) (k : Nat) (hk : k ≠ g) : (put7 w g b0 b1 b2 b3 b4 b5 b6).heap[k]? = w.heap[k]? := by
 unfold put7;rw [Below.heap_setCell _ _ _ k hk, Below.heap_setCell _ _ _ k hk, Below.heap_setCell _ _ _ k hk, Below.heap_setCell _ _ _ k hk, Below.heap_setCell _ _ _ k hk, Below.heap_setCell _ _ _ k hk, Below.heap_setCell _ _ _ k hk]
theorem put7_below {B : Nat} {a w : World} (h : Below B a w) {g : Nat} (hg : B ≤ g) (b0 b1 b2 b3 b4 b5 b6 : Value) : Below B a (put7 w g b0 b1 b2 b3 b4 b5 b6) :=
 ((((((h.setCell (p := ⟨g, 0, none⟩) hg b0).setCell (p := ⟨g, 1, none⟩) hg b1).setCell (p := ⟨g, 2, none⟩) hg b2).setCell (p := ⟨g, 3, none⟩) hg b3).setCell (p := ⟨g, 4, none⟩) hg b4).setCell (p := ⟨g, 5, none⟩) hg b5).setCell (p := ⟨g, 6, none⟩) hg b6
end Go.Dr
namespace Go.Proofs.YtahapblgmehngaaGreatDoor
open Go.RowKit Go.Dr
def Rows (rb : Nat) (w : World) (n : Nd) : Prop := w.ownsRow rb 89 3 n.vp n.x.lp.length (fcells n.x.lp) ∧ w.ownsRow rb 60 3 n.vf n.x.lf.length (fcells n.x.lf)
def Foot (s R m : Nat) (l : List Nd) (k : Nat) : Prop := k = s ∨ k = m ∨ k = R ∨ k ∈ l.map Nd.b
structure Sh (fb rb : Nat) (w : World) (s R m : Nat) (most last : Int) (l : List Nd) : Prop where
 blk : Blk w s 100 #[.int .i64 most, .int .i64 (costs (l.map Nd.x) : Nat), .int .i64 last, Ptr R, .map (some m)]
 ring : Ring w 97 R (l.map Nd.n)
 map : PMap Tryz.prog 3 w m (l.map fun n => (n.x.id, n.b))
 rows : ∀ n ∈ l, Rows rb w n
 base : ∀ k, Foot s R m l k → fb ≤ k
 room : (costs (l.map Nd.x) : Int) ≤ most
 most1 : most ≤ 1048576
theorem Rows.block {rb : Nat} {w w' : World} {n : Nd} (h : Rows rb w n) (hb : ∀ g cur, (w.heap[g]? = some (.cells cur 89 (0, 0)) ∨ w.heap[g]? = some (.cells cur 60 (0, 0))) → rb ≤ g → w'.heap[g]? = w.heap[g]?) : Rows rb w' n :=
 ⟨own_block h.1 fun g cur hg hr => hb g cur (.inl hg) hr, own_block h.2 fun g cur hg hr => hb g cur (.inr hg) hr⟩
theorem Rows.below {rb : Nat} {w w' : World} {n : Nd} (h : Rows rb w n) (hb : Below w.heap.size w w') : Rows rb w' n := ⟨own_below h.1 hb, own_below h.2 hb⟩
section
variable {fb rb : Nat} {w w' : World} {s R m : Nat} {most last : Int} {l : List Nd}
theorem Sh.ndlt (h : Sh fb rb w s R m most last l) {n : Nd} (hn : n ∈ l) : n.b < w.heap.size := h.ring.lt (b := n.b) (by rw [nd_blocks];simp;exact .inr ⟨n, hn, rfl⟩)
theorem Sh.rlt (h : Sh fb rb w s R m most last l) : R < w.heap.size := h.ring.lt (b := R) (by simp)
theorem Sh.foot_lt (h : Sh fb rb w s R m most last l) {k : Nat} (hk : Foot s R m l k) : k < w.heap.size := by
 rcases hk with rfl | rfl | rfl | hk
 ·exact h.blk.lt
 ·exact h.map.lt
 ·exact h.rlt
 ·obtain ⟨n, hn, rfl⟩ := List.mem_map.1 hk
  exact h.ndlt hn
theorem Sh.at {a b : List Nd} {n : Nd} (h : Sh fb rb w s R m most last (a ++ n :: b)) : Blk w n.b 97 (n.k.cells (lastOr (a.map Nd.n) R) (headOr (b.map Nd.n) R)) := by
 have := h.ring
 rw [List.map_append, List.map_cons] at this;exact this.at
theorem Sh.nd (h : Sh fb rb w s R m most last l) {n : Nd} (hn : n ∈ l) : ∃ p q, Blk w n.b 97 (n.k.cells p q) := by
 obtain ⟨a, b, rfl⟩ := List.append_of_mem hn;exact ⟨_, _, h.at⟩
theorem Sh.off (h : Sh fb rb w s R m most last l) {g : Nat} {t : TypeId} {xs : Array Value} (hg : w.heap[g]? = some (.cells xs t (0, 0))) (h1 : t ≠ 100) (h2 : t ≠ 97) : ¬ Foot s R m l g := by
 rintro (rfl | rfl | rfl | hk)
 ·have := h.blk
  unfold Blk at this;rw [hg] at this;simp only [Option.some.injEq, Obj.cells.injEq] at this;exact h1 this.2.1
 ·obtain ⟨es, clock, e⟩ := h.map.obj
  rw [hg] at e;simp at e
 ·have := h.ring.root
  unfold Blk at this;rw [hg] at this;simp only [Option.some.injEq, Obj.cells.injEq] at this;exact h2 this.2.1
 ·obtain ⟨n, hn, rfl⟩ := List.mem_map.1 hk
  obtain ⟨p, q, this⟩ := h.nd hn;unfold Blk at this;rw [hg] at this;simp only [Option.some.injEq, Obj.cells.injEq] at this;exact h2 this.2.1
theorem Sh.keep (h : Sh fb rb w s R m most last l) (hk : ∀ k, Foot s R m l k → w'.heap[k]? = w.heap[k]?) (hr : ∀ n ∈ l, Rows rb w' n) : Sh fb rb w' s R m most last l where
 blk := h.blk.block (hk s (.inl rfl))
 ring := h.ring.block fun b hb => hk b (by
  rw [nd_blocks, List.mem_cons] at hb
  rcases hb with rfl | hb
  ·exact .inr (.inr (.inl rfl))
  ·exact .inr (.inr (.inr hb)))
 map := h.map.block (hk m (.inr (.inl rfl)))
 rows := hr
 base := h.base
 room := h.room
 most1 := h.most1
theorem Sh.below (h : Sh fb rb w s R m most last l) (hb : Below w.heap.size w w') : Sh fb rb w' s R m most last l := h.keep (fun k hk => hb.block k (h.foot_lt hk)) fun n hn => (h.rows n hn).below hb
theorem Sh.drew (h : Sh fb rb w s R m most last l) : Sh fb rb w.drew s R m most last l := ⟨h.blk, h.ring.block fun _ _ => rfl, h.map.block rfl, h.rows, h.base, h.room, h.most1⟩
theorem Sh.ne_s (h : Sh fb rb w s R m most last l) : s ≠ R ∧ s ≠ m ∧ m ≠ R ∧ (∀ n ∈ l, n.b ≠ s ∧ n.b ≠ m ∧ n.b ≠ R) := by
 have h1 := h.blk;obtain ⟨es, clock, h2⟩ := h.map.obj;have h3 := h.ring.root;unfold Blk at h1 h3;refine ⟨?_, ?_, ?_, fun n hn => ⟨?_, ?_, ?_⟩⟩
 ·rintro rfl;rw [h3] at h1;simp only [Option.some.injEq, Obj.cells.injEq] at h1;exact absurd h1.2.1 (by decide)
 ·rintro rfl;rw [h2] at h1;simp at h1
 ·rintro rfl;rw [h3] at h2;simp at h2
 ·rintro rfl
  obtain ⟨p, q, this⟩ := h.nd hn;unfold Blk at this;rw [h1] at this;simp only [Option.some.injEq, Obj.cells.injEq] at this;exact absurd this.2.1 (by decide)
 ·rintro rfl
  obtain ⟨p, q, this⟩ := h.nd hn;unfold Blk at this;rw [h2] at this;simp at this
 ·intro e
  have := h.ring.nodup
  rw [nd_blocks, List.nodup_cons] at this;exact this.1 (e ▸ List.mem_map_of_mem hn)
theorem Sh.cost_le (h : Sh fb rb w s R m most last l) {n : Nd} (hn : n ∈ l) : n.x.cost ≤ 1048576 := by
 have h1 := h.room;have h2 := h.most1;obtain ⟨a, b, rfl⟩ := List.append_of_mem hn;rw [List.map_append, List.map_cons, costs_append, costs_cons] at h1;omega
theorem Sh.ids (h : Sh fb rb w s R m most last l) : (l.map fun n => n.x.id).Nodup := by
 obtain ⟨D, _, _, _, h4, _⟩ := h.map;simpa [List.map_map, Function.comp_def] using h4
end
open Go.RowKit Go.Dr
theorem last_of (a : List Nd) (R : Nat) : lastOr (a.map Nd.n) R = R ∨ ∃ n ∈ a, n.b = lastOr (a.map Nd.n) R := by
 rcases lastOr_mem (a.map Nd.n) R with e | e
 ·exact .inl e
 ·rw [nd_blocks] at e
  obtain ⟨n, hn, e⟩ := List.mem_map.1 e;exact .inr ⟨n, hn, e⟩
theorem head_of (a : List Nd) (R : Nat) : headOr (a.map Nd.n) R = R ∨ ∃ n ∈ a, n.b = headOr (a.map Nd.n) R := by
 rcases headOr_mem (a.map Nd.n) R with e | e
 ·exact .inl e
 ·rw [nd_blocks] at e
  obtain ⟨n, hn, e⟩ := List.mem_map.1 e;exact .inr ⟨n, hn, e⟩
theorem ring_cell {fb rb : Nat} {w : World} {s R m : Nat} {most last : Int} {l : List Nd} (h : Sh fb rb w s R m most last l) {b : Nat} (hb : b = R ∨ ∃ n ∈ l, n.b = b) : ∃ k p q, Blk w b 97 (K.cells k p q) := by
 rcases hb with rfl | ⟨n, hn, rfl⟩
 ·exact ⟨_, _, _, h.ring.root⟩
 ·obtain ⟨p, q, e⟩ := h.nd hn
  exact ⟨_, p, q, e⟩
theorem drop_any (fb rb s R m : Nat) (most last : Int) (a b : List Nd) (n : Nd) (w : World) (h : Sh fb rb w s R m most last (a ++ n :: b)) :
  Calls Tryz.prog 99 #[Ptr s, Ptr n.b] w fun e w' => e = .returned (.tuple #[]) ∧ Sh fb rb w' s R m most last (a ++ b) ∧ But (Foot s R m (a ++ n :: b)) w w' := by
 have hne := h.ne_s;have hat := h.at;obtain ⟨p, ep⟩ : ∃ p, p = lastOr (a.map Nd.n) R := ⟨_, rfl⟩;obtain ⟨q, eq⟩ : ∃ q, q = headOr (b.map Nd.n) R := ⟨_, rfl⟩
 have hpm : p = R ∨ ∃ n' ∈ a ++ n :: b, n'.b = p := by
  rcases last_of a R with e | ⟨n', hn, e⟩
  ·exact .inl (ep.trans e)
  ·exact .inr ⟨n', by simp [hn], e.trans ep.symm⟩
 have hqm : q = R ∨ ∃ n' ∈ a ++ n :: b, n'.b = q := by
  rcases head_of b R with e | ⟨n', hn, e⟩
  ·exact .inl (eq.trans e)
  ·exact .inr ⟨n', by simp [hn], e.trans eq.symm⟩
 have hnd := h.ring.nodup;rw [nd_blocks, List.map_append, List.map_cons] at hnd
 have hp1 : p ≠ n.b := by
  rcases last_of a R with e | ⟨n', hn, e⟩
  ·intro e1;rw [← e1, ep, e] at hnd;simp at hnd
  ·intro e1
   simp only [List.nodup_cons, List.nodup_append] at hnd;exact hnd.2.2.2 n'.b (List.mem_map_of_mem hn) n.b (by simp) (e.trans (ep.symm.trans e1))
 have hq1 : q ≠ n.b := by
  rcases head_of b R with e | ⟨n', hn, e⟩
  ·intro e1;rw [← e1, eq, e] at hnd;simp at hnd
  ·intro e1
   simp only [List.nodup_cons, List.nodup_append] at hnd;exact hnd.2.2.1.1 ((e.trans (eq.symm.trans e1)) ▸ List.mem_map_of_mem hn)
 obtain ⟨kp, p1, p2, hpb⟩ := ring_cell h hpm;obtain ⟨kq, q1, q2, hqb⟩ := ring_cell h hqm;have hout := h.ring;rw [List.map_append, List.map_cons] at hout;have hout := hout.out;rw [← ep, ← eq] at hat;rw [← ep, ← eq, ← List.map_append] at hout
 have hsp : s ≠ p := by
  rcases hpm with e | ⟨n', hn, e⟩
  ·rw [e];exact hne.1
  ·rw [← e];exact fun e => (hne.2.2.2 n' hn).1 e.symm
 have hsq : s ≠ q := by
  rcases hqm with e | ⟨n', hn, e⟩
  ·rw [e];exact hne.1
  ·rw [← e];exact fun e => (hne.2.2.2 n' hn).1 e.symm
 have hmp : m ≠ p := by
  rcases hpm with e | ⟨n', hn, e⟩
  ·rw [e];exact hne.2.2.1
  ·rw [← e];exact fun e => (hne.2.2.2 n' hn).2.1 e.symm
 have hmq : m ≠ q := by
  rcases hqm with e | ⟨n', hn, e⟩
  ·rw [e];exact hne.2.2.1
  ·rw [← e];exact fun e => (hne.2.2.2 n' hn).2.1 e.symm
 have hfp : Foot s R m (a ++ n :: b) p := by
  rcases hpm with e | ⟨n', hn, e⟩
  ·exact .inr (.inr (.inl e))
  ·exact .inr (.inr (.inr (e ▸ List.mem_map_of_mem hn)))
 have hfq : Foot s R m (a ++ n :: b) q := by
  rcases hqm with e | ⟨n', hn, e⟩
  ·exact .inr (.inr (.inl e))
  ·exact .inr (.inr (.inr (e ▸ List.mem_map_of_mem hn)))
 have hC := out_any n.b p q (Ptr p2) (Ptr q1) w (hat.cell 9) (hat.cell 10) hp1 hq1 (hpb.cell 10) (hpb.free 10) (hqb.cell 9) (hqb.free 9);obtain ⟨w1, ew⟩ : ∃ w1 : World, w1 = ((w.setCell ⟨p, 10, none⟩ (Ptr q)).setCell ⟨q, 9, none⟩ (Ptr p)).drew := ⟨_, rfl⟩;rw [← ew] at hC;have hr1 : Ring w1 97 R ((a ++ b).map Nd.n) := (by rw [ew];exact hout.block fun _ _ => rfl);have hs1 : Blk w1 s 100 #[.int .i64 most, .int .i64 (costs ((a ++ n :: b).map Nd.x) : Nat), .int .i64 last, Ptr R, .map (some m)] := (by rw [ew];exact ((h.blk.other (p := ⟨p, 10, none⟩) hsp _).other (p := ⟨q, 9, none⟩) hsq _).drew);have hn1 : Blk w1 n.b 97 (n.k.cells p q) := (by rw [ew];exact ((hat.other (p := ⟨p, 10, none⟩) (fun e => hp1 e.symm) _).other (p := ⟨q, 9, none⟩) (fun e => hq1 e.symm) _).drew)
 have hm1 : PMap Tryz.prog 3 w1 m ((a ++ n :: b).map fun n => (n.x.id, n.b)) := by
  rw [ew];refine h.map.block ?_;exact (Below.heap_setCell _ ⟨q, 9, none⟩ _ m hmq).trans (Below.heap_setCell _ ⟨p, 10, none⟩ _ m hmp)
 have hb1 : But (Foot s R m (a ++ n :: b)) w w1 := (by rw [ew];exact (((But.refl _ w).setCell (p := ⟨p, 10, none⟩) (.inl hfp) _).setCell (p := ⟨q, 9, none⟩) (.inl hfq) _).drew);have hc1 : costs ((a ++ n :: b).map Nd.x) = costs ((a ++ b).map Nd.x) + n.x.cost := (by simp only [List.map_append, List.map_cons, costs_append, costs_cons];omega);have hrm := h.room;have hmm := h.most1;obtain ⟨c1, ec1⟩ : ∃ c1, c1 = costs ((a ++ n :: b).map Nd.x) := ⟨_, rfl⟩;obtain ⟨c0, ec0⟩ : ∃ c0, c0 = costs ((a ++ b).map Nd.x) := ⟨_, rfl⟩;obtain ⟨cn, ecn⟩ : ∃ cn, cn = n.x.cost := ⟨_, rfl⟩;rw [← ec1] at hs1 hc1 hrm;rw [← ec0, ← ecn] at hc1;have v1 := hs1.k1;have v2 : w1.cell? ⟨n.b, 1, none⟩ = some (.int .i64 (cn : Nat)) := (by rw [ecn];exact hn1.cell 1);clear ecn;have f1 := hs1.free 1;obtain ⟨w2, ew2⟩ : ∃ w2 : World, w2 = (w1.setCell ⟨s, 1, none⟩ (.int .i64 (c0 : Nat))).drew := ⟨_, rfl⟩
 have hs2 : Blk w2 s 100 #[.int .i64 most, .int .i64 (c0 : Nat), .int .i64 last, Ptr R, .map (some m)] := by
  rw [ew2];have := (hs1.set 1 (.int .i64 (c0 : Nat))).drew
  simpa using this
 have hn2 : Blk w2 n.b 97 (n.k.cells p q) := (by rw [ew2];exact (hn1.other (p := ⟨s, 1, none⟩) (hne.2.2.2 n (by simp)).1 _).drew)
 have hr2 : Ring w2 97 R ((a ++ b).map Nd.n) := by
  rw [ew2];refine hr1.block fun k hk => Below.heap_setCell w1 ⟨s, 1, none⟩ _ k ?_
  rw [nd_blocks, List.mem_cons] at hk
  rcases hk with e | hk
  ·rw [e];exact fun e => hne.1 e.symm
  ·obtain ⟨n', hn', e⟩ := List.mem_map.1 hk
   rw [← e];exact (hne.2.2.2 n' (mem_more hn')).1
 have hm2 : PMap Tryz.prog 3 w2 m ((a ++ n :: b).map fun n => (n.x.id, n.b)) := (by rw [ew2];exact hm1.block (Below.heap_setCell w1 ⟨s, 1, none⟩ _ m fun e => hne.2.1 e.symm));have hb2 : But (Foot s R m (a ++ n :: b)) w w2 := (by rw [ew2];exact (hb1.setCell (p := ⟨s, 1, none⟩) (.inl (.inl rfl)) _).drew);rw [List.map_append, List.map_cons] at hm2;obtain ⟨w3, hrun, hm3, ht3⟩ := (show PMap Tryz.prog 3 w2.drew m _ from hm2.block rfl).drop Tryz.underlying3 Tryz.underlying98 0;simp only at hrun;have hb3 : But (Foot s R m (a ++ n :: b)) w w3 := hb2.drew.trans (But.grown ht3.grown (.inr (.inl rfl)));have g2 : ∀ k, k ≠ m → k < w2.heap.size → w3.heap[k]? = w2.heap[k]? := fun k hk hl => ht3.grown.block k hl (by simpa using hk)
 have hfin : Sh fb rb w3 s R m most last (a ++ b) := by
  refine ⟨?_, ?_, ?_, ?_, ?_, ?_, hmm⟩
  ·rw [← ec0];exact hs2.block (g2 s hne.2.1 hs2.lt)
  ·refine hr2.block fun k hk => g2 k ?_ (hr2.lt hk)
   rw [nd_blocks, List.mem_cons] at hk
   rcases hk with e | hk
   ·rw [e];exact fun e => hne.2.2.1 e.symm
   ·obtain ⟨n', hn', e⟩ := List.mem_map.1 hk
    rw [← e];exact (hne.2.2.2 n' (mem_more hn')).2.1
  ·rw [List.map_append];exact hm3
  ·exact fun n' hn' => (h.rows n' (mem_more hn')).block fun g cur hg _ => hb3.block g (by rcases hg with hg | hg <;> exact (Array.getElem?_eq_some_iff.1 hg).1) (by
    rcases hg with hg | hg
    ·exact h.off hg (by decide) (by decide)
    ·exact h.off hg (by decide) (by decide))
  ·exact fun k hk => h.base k (by
    rcases hk with e | e | e | hk
    ·exact .inl e
    ·exact .inr (.inl e)
    ·exact .inr (.inr (.inl e))
    ·refine .inr (.inr (.inr ?_))
     rw [List.map_append] at hk ⊢
     exact mem_more hk)
  ·rw [← ec0];omega
 have x4 := hs2.k4;have x0 : w2.cell? ⟨n.b, 0, none⟩ = some (.int .i64 n.x.id) := hn2.cell 0;have hsub : (c1 : Int) - (cn : Int) = (c0 : Int) := (by omega);have hwr : IntKind.i64.wrap ((c1 : Int) - (cn : Int)) = (c0 : Int) := (by rw [hsub, IntKind.wrap_i64];omega);clear hsub;have HE := Lib.hid ew2;clear ew2 ew hout hpb hqb hat hpm hqm hnd hr1 hm1 hb1 hs1 hn1 ec1 ec0 hfp hfq hb2 hm2 hr2 hs2 hn2 ht3 g2 hp1 hq1 hm3 hne hc1 hrm h ep eq hsp hsq hmp hmq;go_enter Tryz.func99, Tryz.ntmps99
 go_wp2_with fail;refine hC.mono ?_;rintro e w' ⟨rfl, rfl⟩;go_wp2_with fail
 go_region_with (fail)
 all_goals
  rw [← HE.out];go_wp2_with fail
  go_region_with (fail)
  all_goals
   go_wp2;go_end0
   exact ⟨rfl, hfin, hb3⟩
open Go.RowKit Go.Dr
theorem foot_more {s R m : Nat} {l l' : List Nd} (h : ∀ n ∈ l, n ∈ l') {k : Nat} (hk : Foot s R m l k) : Foot s R m l' k := by
 rcases hk with e | e | e | hk
 ·exact .inl e
 ·exact .inr (.inl e)
 ·exact .inr (.inr (.inl e))
 ·obtain ⟨n, hn, e⟩ := List.mem_map.1 hk
  exact .inr (.inr (.inr (e ▸ List.mem_map_of_mem (h n hn))))
abbrev entV (n : Nd) : Value := .agg #[S n.x.key, n.vp, .int .i64 n.x.st, n.vf, S n.x.body, .int .i64 n.x.asked, .int .i64 n.x.came]
def blkOf : Value → Nat | .pointer (some a) => a.block | _ => 0
theorem idx_head (dn rs : List Nd) (R : Nat) (h : (R :: (dn ++ rs).map Nd.b).Nodup) : ((dn ++ rs).map Nd.b).idxOf (blkOf (Ptr (headOr (rs.map Nd.n) R))) = dn.length := by
 show ((dn ++ rs).map Nd.b).idxOf (headOr (rs.map Nd.n) R) = dn.length
 rw [List.nodup_cons, List.map_append] at h;rw [List.map_append, List.idxOf_append]
 cases rs with
 | nil =>
  simp only [List.map_nil, headOr_nil, List.append_nil] at h ⊢;rw [if_neg h.1];simp
 | cons n rs =>
  have : headOr ((n :: rs).map Nd.n) R = n.b := rfl
  rw [this];have h2 := (List.nodup_append.1 h.2).2.2;rw [if_neg fun hm => h2 n.b hm n.b (by simp) rfl];simp
theorem sweep_any (fb rb s R m : Nat) (most last : Int) (l : List Nd) (w : World) (h : Sh fb rb w s R m most last l) (hlen : l.length ≤ 1048576) (F : FuncId) (hF : ∀ args w, (callFunc F args).run Tryz.prog w = .ok (.enter F args) w) (caps : Array Value) (p : Nd → Bool) (J : List Nd → World → Prop) (hJ0 : J [] w)
  (hg : ∀ dn n rs wa, l = dn ++ n :: rs → Sh fb rb wa s R m most last (dn.filter (fun n => !p n) ++ n :: rs) → J dn wa → Calls Tryz.prog F (#[entV n] ++ caps) wa fun e wb => e = .returned (.bool (p n)) ∧ Sh fb rb wb s R m most last (dn.filter (fun n => !p n) ++ n :: rs) ∧ J (dn ++ [n]) wb)
  (hJ : (∃ n ∈ l, p n = true) → ∀ dn wa wb, J dn wa → But (Foot s R m l) wa wb → J dn wb) :
  Calls Tryz.prog 56 #[Ptr s, .func (.func F) #[] caps] w fun e w' => e = .returned (.int .i64 ((l.filter p).length : Nat)) ∧ Sh fb rb w' s R m most last (l.filter (fun n => !p n)) ∧ J l w' := by
 have y3 : w.cell? ⟨s, 3, none⟩ = some (Ptr R) := h.blk.cell 3;have y10 : w.cell? ⟨R, 10, none⟩ = some (Ptr (headOr (l.map Nd.n) R)) := h.ring.root.cell 10;obtain ⟨q0, eq0⟩ : ∃ q0, q0 = headOr (l.map Nd.n) R := ⟨_, rfl⟩;rw [← eq0] at y10;have HQ := Lib.hid eq0;clear eq0;go_enter Tryz.func56, Tryz.ntmps56
 go_wp2
 go_loopw [5, 6] (fun n q wr => ∃ dn rs, l = dn ++ rs ∧ n = .int .i64 ((dn.filter p).length : Nat) ∧ q = Ptr (headOr (rs.map Nd.n) R) ∧ Sh fb rb wr s R m most last (dn.filter (fun n => !p n) ++ rs) ∧ J dn wr) (fun _ q _ => l.length - (l.map Nd.b).idxOf (blkOf q))
 case atStart => exact ⟨[], l, rfl, rfl, by rw [HQ.out], h, hJ0⟩
 case round =>
  obtain ⟨dn, rs, hl, rfl, rfl, hs, hj⟩ := hrel;have x3 : wr.cell? ⟨s, 3, none⟩ = some (Ptr R) := hs.blk.cell 3;have hnd := h.ring.nodup;rw [nd_blocks] at hnd
  cases rs with
  | nil =>
   rw [List.append_nil] at hl hs;subst hl;have e0 : headOr (List.map Nd.n []) R = R := rfl;have hq := neq_link hs.ring.root hs.ring.root false (by simp);rw [e0];go_wp2;go_ret;exact ⟨rfl, hs, hj⟩
  | cons n rs =>
   have e0 : headOr (List.map Nd.n (n :: rs)) R = n.b := rfl;have hat := hs.at;have hnR : ¬ n.b = R := (hs.ne_s.2.2.2 n (by simp)).2.2;have hc1 : (dn.filter p).length ≤ dn.length := List.length_filter_le _ _;have hc2 : dn.length + rs.length + 1 = l.length := (by rw [hl];simp;omega);have HM1 := Lib.hid (idx_head dn (n :: rs) R (hl ▸ hnd));have HM2 := Lib.hid (idx_head (dn ++ [n]) rs R (by rw [List.append_assoc];exact hl ▸ hnd))
   have hsubl : ∀ x ∈ dn.filter (fun n => !p n) ++ n :: rs, x ∈ l := fun x hx => by
    rw [hl]
    rcases List.mem_append.1 hx with hx | hx
    ·exact List.mem_append.2 (.inl (List.mem_filter.1 hx).1)
    ·exact List.mem_append.2 (.inr hx)
   have hq := neq_link hat hs.ring.root true (by simp [hnR]);rw [e0];obtain ⟨nx, enx⟩ : ∃ nx, nx = headOr (rs.map Nd.n) R := ⟨_, rfl⟩;rw [← enx] at hat;have HNX := Lib.hid enx;clear enx;have HL := Lib.hid hl;clear hl;obtain ⟨c, ec⟩ : ∃ c, c = (dn.filter p).length := ⟨_, rfl⟩;rw [← ec] at hc1 ⊢;have HC := Lib.hid ec;clear ec;have z2 : wr.cell? ⟨n.b, 2, none⟩ = some (S n.x.key) := hat.cell 2;have z3 : wr.cell? ⟨n.b, 3, none⟩ = some n.vp := hat.cell 3;have z4 : wr.cell? ⟨n.b, 4, none⟩ = some (.int .i64 n.x.st) := hat.cell 4;have z5 : wr.cell? ⟨n.b, 5, none⟩ = some n.vf := hat.cell 5;have z6 : wr.cell? ⟨n.b, 6, none⟩ = some (S n.x.body) := hat.cell 6;have z7 : wr.cell? ⟨n.b, 7, none⟩ = some (.int .i64 n.x.asked) := hat.cell 7;have z8 : wr.cell? ⟨n.b, 8, none⟩ = some (.int .i64 n.x.came) := hat.cell 8;have z10 : wr.cell? ⟨n.b, 10, none⟩ = some (Ptr nx) := hat.cell 10;go_wp2_with fail;refine (hg dn n rs wr HL.out hs hj).mono ?_;rintro e w1 ⟨rfl, hs1, hj1⟩
   cases hp : p n with
   | true =>
    go_wp2_with fail;refine (drop_any fb rb s R m most last _ _ _ w1 hs1).mono ?_;rintro e w2 ⟨rfl, hs2, hb2⟩;go_wp2
    go_roundw
    case rel =>
     refine ⟨dn ++ [n], rs, by rw [HL.out];simp, ?_, by rw [HNX.out], ?_, hJ ⟨n, by rw [HL.out];simp, hp⟩ _ _ _ hj1 (hb2.more fun k hk => foot_more hsubl hk)⟩
     ·rw [List.filter_append, List.length_append, ← HC.out]
      simp [hp]
     ·rw [List.filter_append]
      simpa [hp] using hs2
    case measure =>
     have m1 : (l.map Nd.b).idxOf (blkOf (Ptr n.b)) = dn.length := (by rw [HL.out];exact HM1.out)
     have m2 : (l.map Nd.b).idxOf (blkOf (Ptr nx)) = dn.length + 1 := by
      have := HM2.out
      rw [List.append_assoc] at this;rw [HL.out, HNX.out];simpa using this
     show l.length - (l.map Nd.b).idxOf (blkOf (Ptr nx)) < l.length - (l.map Nd.b).idxOf (blkOf (Ptr n.b))
     rw [m1, m2];omega
   | false =>
    go_wp2
    go_roundw
    case rel =>
     refine ⟨dn ++ [n], rs, by rw [HL.out];simp, ?_, by rw [HNX.out], ?_, hj1⟩
     ·rw [List.filter_append, List.length_append, ← HC.out]
      simp [hp]
     ·rw [List.filter_append]
      simpa [hp] using hs1
    case measure =>
     have m1 : (l.map Nd.b).idxOf (blkOf (Ptr n.b)) = dn.length := (by rw [HL.out];exact HM1.out)
     have m2 : (l.map Nd.b).idxOf (blkOf (Ptr nx)) = dn.length + 1 := by
      have := HM2.out
      rw [List.append_assoc] at this;rw [HL.out, HNX.out];simpa using this
     show l.length - (l.map Nd.b).idxOf (blkOf (Ptr nx)) < l.length - (l.map Nd.b).idxOf (blkOf (Ptr n.b))
     rw [m1, m2];omega
open Go.RowKit Go.Dr
def costF (q : En) (lp lf : List F) : Nat := 64 + q.key.length + q.body.length + fsum lf + fsum lp
theorem Cost_any (q : En) (lp lf : List F) (w : World) (hp : Fs w.heap.size w q.vp lp) (hf : Fs w.heap.size w q.vf lf) (hk : q.key.length ≤ 1099511627776) (hb : q.body.length ≤ 1099511627776) (hl : fsum lp ≤ 1099511627776) (hl2 : fsum lf ≤ 1099511627776) :
  Calls Tryz.prog 100 #[q.val] w fun e w' => e = .returned (.int .i64 (costF q lp lf : Nat)) ∧ Below w.heap.size w w' := by
 obtain ⟨pf, cf, hfv, -⟩ := hf.form;obtain ⟨pp, cp, hpv, -⟩ := hp.form;obtain ⟨key, vp, st, vf, body, asked, came⟩ := q;simp only at hfv hpv hf hp hk hb;subst hfv hpv;have HC : Hid (costF ⟨key, .slice pp lp.length cp, st, .slice pf lf.length cf, body, asked, came⟩ lp lf = 64 + key.length + body.length + fsum lf + fsum lp) := rfl;simp only [En.val];generalize costF ⟨key, .slice pp lp.length cp, st, .slice pf lf.length cf, body, asked, came⟩ lp lf = C at *;obtain ⟨w0, ew⟩ : ∃ w0 : World, w0 = w.alloc (.cells #[S key, .slice pp lp.length cp, .int .i64 st, .slice pf lf.length cf, S body, .int .i64 asked, .int .i64 came] 36) := ⟨_, rfl⟩;have hQ0 : Blk w0 w.heap.size 36 #[S key, .slice pp lp.length cp, .int .i64 st, .slice pf lf.length cf, S body, .int .i64 asked, .int .i64 came] := (by rw [ew];exact Blk.new _ _ _);have hb0 : Below w.heap.size w w0 := (by rw [ew];exact (Below.refl _ _).alloc (Nat.le_refl _) _);have hf0 := (hf.below hb0).mono hb0.size;have hp0 := (hp.below hb0).mono hb0.size;have y0 : w0.cell? ⟨w.heap.size, 0, none⟩ = some (S key) := hQ0.cell 0;have y3 : w0.cell? ⟨w.heap.size, 3, none⟩ = some (.slice pf lf.length cf) := hQ0.cell 3;have y4 : w0.cell? ⟨w.heap.size, 4, none⟩ = some (S body) := hQ0.cell 4;have hn1 := fsum_length lf;have hn2 := fsum_length lp;go_enter Tryz.func100, Tryz.ntmps100
 go_upto_region 1 with fail;rw [← ew];clear ew hf hp;go_wp2
 go_loopw [3, 19] (fun n i wr => ∃ k : Nat, i = .int .i64 k ∧ k ≤ lf.length ∧ n = .int .i64 ((64 + key.length + body.length + fsum (lf.take k) : Nat) : Int) ∧ Below w0.heap.size w0 wr) (fun _ i _ => lf.length - (intOf i).toNat)
 case atStart => exact ⟨0, rfl, Nat.zero_le _, by simp [fsum], Below.refl _ _⟩
 case round =>
  obtain ⟨k, rfl, hk', rfl, hbel⟩ := hrel;have hbd := Lib.hid (fsum_take lf k);by_cases hlt : k < lf.length
  ·obtain ⟨b, off, rfl, hbb, c0, c1, c2⟩ := (hf0.below hbel).at k hlt
   have hff := fsum_mem (List.getElem_mem hlt);have HS : Hid (fsum (lf.take (k + 1)) = fsum (lf.take k) + (lf[k].n.length + lf[k].v.length + 32)) := (by show _ = _;rw [take_snoc lf k hlt, fsum_append];simp [fsum]);have hb1 := hbd.out;generalize fsum (lf.take k) = s at *;go_wp2
   go_roundw
   case rel => exact ⟨k + 1, by go_num, by omega, by rw [HS.out];go_num, hbel.alloc hbel.size _⟩
   case measure => simp [intOf];omega
  ·have e : k = lf.length := by omega
   subst e;rw [List.take_length] at *;obtain ⟨wo, rfl⟩ : ∃ wo : World, wo = wr := ⟨_, rfl⟩;have hQo := hQ0.on hbel;have y1 : wo.cell? ⟨w.heap.size, 1, none⟩ = some (.slice pp lp.length cp) := hQo.cell 1;have hpo := (hp0.below hbel).mono hbel.size;have hwo := Bl.tr hb0 hbel;go_wp2
   go_loopw [3, 37] (fun n i wr => ∃ k : Nat, i = .int .i64 k ∧ k ≤ lp.length ∧ n = .int .i64 ((64 + key.length + body.length + fsum lf + fsum (lp.take k) : Nat) : Int) ∧ Below wo.heap.size wo wr) (fun _ i _ => lp.length - (intOf i).toNat)
   case atStart => exact ⟨0, rfl, Nat.zero_le _, by simp [fsum], Below.refl _ _⟩
   case round =>
    obtain ⟨k, rfl, hk', rfl, hbel⟩ := hrel;have hbd := Lib.hid (fsum_take lp k);by_cases hlt : k < lp.length
    ·obtain ⟨b, off, rfl, hbb, c0, c1, c2⟩ := (hpo.below hbel).at k hlt
     have hff := fsum_mem (List.getElem_mem hlt);have HS : Hid (fsum (lp.take (k + 1)) = fsum (lp.take k) + (lp[k].n.length + lp[k].v.length + 32)) := (by show _ = _;rw [take_snoc lp k hlt, fsum_append];simp [fsum]);have hb1 := hbd.out;generalize fsum (lp.take k) = s at *;go_wp2
     go_roundw
     case rel => exact ⟨k + 1, by go_num, by omega, by rw [HS.out];go_num, hbel.alloc hbel.size _⟩
     case measure => simp [intOf];omega
    ·have e : k = lp.length := by omega
     subst e;rw [List.take_length] at *;go_wp2;go_ret;exact ⟨ret_int (by rw [HC.out]), Bl.tr hwo hbel⟩
open Go.RowKit Go.Dr
theorem CloneF_any (l : List F) (v : Value) (w : World) (h : Fs w.heap.size w v l) (hl : l.length * 40 ≤ 140737488351232) :
  Calls Tryz.prog 104 #[v] w fun e w' => ∃ v', e = .returned v' ∧ w'.ownsRow w.heap.size 60 3 v' l.length (fcells l) ∧ Below w.heap.size w w' := by
 obtain ⟨a, c, rfl, -⟩ := h.form;have q22 : ∀ (w : World) (a : Option Addr) (n c n' c' : Nat), (binOp .eql 26 (.slice a n c) (.slice none n' c')).run Tryz.prog w = .ok (.bool a.isNone) w := fun w a n c n' c' => Lib.run_eql_slice_nil w _ _ a n c n' c' Tryz.underlying26
 cases a with
 | none =>
  have hn : l.length = 0 := by
   rcases Nat.eq_zero_or_pos l.length with e | e
   ·exact e
   ·obtain ⟨b, off, h1, -⟩ := h.at 0 e
    cases h1
  obtain rfl := List.eq_nil_of_length_eq_zero hn;clear hn hl;go_enter Tryz.func104, Tryz.ntmps104
  go_wp2;go_ret;exact ⟨_, rfl, World.ownsRow_nil _ _ _ _, Below.refl _ _⟩
 | some a =>
  go_enter Tryz.func104, Tryz.ntmps104
  go_wp2_with (at_builtin;refine wpList_appRd rfl _ _ 26 rfl w.heap.size 60 (.agg #[.string ByteArray.empty, .string ByteArray.empty, .bool false]) 3 40 Tryz.underlying26 (by kernel_rfl) rfl (by decide) _ _ _ rfl (by exact own_lit _ w.heap.size rfl w.heap.size (Nat.le_refl _) _ _) _ _ _ _ rfl (by exact h.below ((Below.refl _ _).alloc (Nat.le_refl _) _)) (fcells_one _) (by unfold maxLen;omega) (by omega) (by simp) ?_;intro a3 c3 w3 hown3 hb3;simp only [Nat.zero_add, List.nil_append] at hown3)
  go_ret;exact ⟨_, rfl, hown3, ((Below.refl _ _).alloc (Nat.le_refl _) _).trans hb3⟩
theorem CloneP_any (l : List F) (v : Value) (w : World) (h : Fs w.heap.size w v l) (hl : l.length * 40 ≤ 140737488351232) :
  Calls Tryz.prog 105 #[v] w fun e w' => ∃ v', e = .returned v' ∧ w'.ownsRow w.heap.size 89 3 v' l.length (fcells l) ∧ Below w.heap.size w w' := by
 obtain ⟨a, c, rfl, -⟩ := h.form;have q22 : ∀ (w : World) (a : Option Addr) (n c n' c' : Nat), (binOp .eql 34 (.slice a n c) (.slice none n' c')).run Tryz.prog w = .ok (.bool a.isNone) w := fun w a n c n' c' => Lib.run_eql_slice_nil w _ _ a n c n' c' Tryz.underlying34
 cases a with
 | none =>
  have hn : l.length = 0 := by
   rcases Nat.eq_zero_or_pos l.length with e | e
   ·exact e
   ·obtain ⟨b, off, h1, -⟩ := h.at 0 e
    cases h1
  obtain rfl := List.eq_nil_of_length_eq_zero hn;clear hn hl;go_enter Tryz.func105, Tryz.ntmps105
  go_wp2;go_ret;exact ⟨_, rfl, World.ownsRow_nil _ _ _ _, Below.refl _ _⟩
 | some a =>
  go_enter Tryz.func105, Tryz.ntmps105
  go_wp2_with (at_builtin;refine wpList_appRd rfl _ _ 34 rfl w.heap.size 89 (.agg #[.string ByteArray.empty, .string ByteArray.empty, .bool false]) 3 40 Tryz.underlying34 (by kernel_rfl) rfl (by decide) _ _ _ rfl (by exact own_lit _ w.heap.size rfl w.heap.size (Nat.le_refl _) _ _) _ _ _ _ rfl (by exact h.below ((Below.refl _ _).alloc (Nat.le_refl _) _)) (fcells_one _) (by unfold maxLen;omega) (by omega) (by simp) ?_;intro a3 c3 w3 hown3 hb3;simp only [Nat.zero_add, List.nil_append] at hown3)
  go_ret;exact ⟨_, rfl, hown3, ((Below.refl _ _).alloc (Nat.le_refl _) _).trans hb3⟩
open Go.RowKit Go.Dr
theorem ret_copied {W : World} {tmps : Array Value} {b : Nat} {v0 v1 v2 v3 v4 v5 v6 : Value} {R : Ending → World → Prop} (hs : tmps[2]? = some (.pointer (some ⟨b, 0, none⟩))) (h : Blk W b 36 #[v0, v1, v2, v3, v4, v5, v6]) (hR : R (.returned (.agg #[v0, v1, v2, v3, v4, v5, v6])) W) :
  bodyPost Tryz.prog Tryz.f66 R .ret { tmps := tmps, defers := [] } W := by
 obtain ⟨g0, g1, g2, g3, g4, g5, g6⟩ := h.c7;exact bodyPost_ret (v := .agg #[v0, v1, v2, v3, v4, v5, v6]) (by simp [results, Tryz.results66, go_sem, hs, g0, g1, g2, g3, g4, g5, g6]) rfl hR
theorem copied_any (q : En) (lp lf : List F) (w : World) (hp : Fs w.heap.size w q.vp lp) (hf : Fs w.heap.size w q.vf lf) (hl : lp.length * 40 ≤ 140737488351232) (hl2 : lf.length * 40 ≤ 140737488351232) :
  Calls Tryz.prog 66 #[q.val] w fun e w' => ∃ vp vf, e = .returned (.agg #[S q.key, vp, .int .i64 q.st, vf, S q.body, .int .i64 q.asked, .int .i64 q.came]) ∧ w'.ownsRow w.heap.size 89 3 vp lp.length (fcells lp) ∧ w'.ownsRow w.heap.size 60 3 vf lf.length (fcells lf) ∧ Below w.heap.size w w' := by
 obtain ⟨pf, cf, hfv, -⟩ := hf.form;obtain ⟨pp, cp, hpv, -⟩ := hp.form;obtain ⟨key, vp, st, vf, body, asked, came⟩ := q;simp only at hfv hpv hf hp;subst hfv hpv;simp only [En.val];obtain ⟨w1, ew1⟩ : ∃ w1 : World, w1 = w.alloc (.cells #[S key, .slice pp lp.length cp, .int .i64 st, .slice pf lf.length cf, S body, .int .i64 asked, .int .i64 came] 36) := ⟨_, rfl⟩;have hs1 : w1.heap.size = w.heap.size + 1 := (by rw [ew1];simp);obtain ⟨w0, ew⟩ : ∃ w0 : World, w0 = w1.alloc (.cells #[S [], .slice none 0 0, .int .i64 0, .slice none 0 0, S [], .int .i64 0, .int .i64 0] 36) := ⟨_, rfl⟩;have hA : Blk w0 w.heap.size 36 #[S key, .slice pp lp.length cp, .int .i64 st, .slice pf lf.length cf, S body, .int .i64 asked, .int .i64 came] := (by rw [ew, ew1];exact (Blk.new _ _ _).alloc _)
 have hB : Blk w0 (w.heap.size + 1) 36 #[S [], .slice none 0 0, .int .i64 0, .slice none 0 0, S [], .int .i64 0, .int .i64 0] := by
  rw [ew];have := Blk.new w1 36 #[S [], .slice none 0 0, .int .i64 0, .slice none 0 0, S [], .int .i64 0, .int .i64 0]
  rwa [hs1] at this
 have hb0 : Below w.heap.size w w0 := (by rw [ew, ew1];exact ((Below.refl _ _).alloc (Nat.le_refl _) _).alloc (by simp) _);have hf0 := (hf.below hb0).mono hb0.size;have hp0 := (hp.below hb0).mono hb0.size;rw [ew1] at ew;clear ew1 hs1 w1;have HF := Lib.hid (fun w h => CloneF_any lf (.slice pf lf.length cf) w h hl2);have HP := Lib.hid (fun w h => CloneP_any lp (.slice pp lp.length cp) w h hl);go_enter Tryz.func66, Tryz.ntmps66
 go_upto_region 1 with fail;rw [← ew];clear ew hf hp;have x1 : w0.cell? ⟨w.heap.size, 1, none⟩ = some (.slice pp lp.length cp) := hA.cell 1;have x3 : w0.cell? ⟨w.heap.size, 3, none⟩ = some (.slice pf lf.length cf) := hA.cell 3;have d1 : w0.drew.cell? ⟨w.heap.size, 1, none⟩ = some (.slice pp lp.length cp) := hA.cell 1;have d3 : w0.drew.cell? ⟨w.heap.size, 3, none⟩ = some (.slice pf lf.length cf) := hA.cell 3
 go_region_with (first
  | (go_at_call 104;refine (HF.out w0.drew hf0.drew).mono ?_;rintro e w2 ⟨vf', rfl, hvf, hb2⟩;obtain ⟨af, kf, rfl, -⟩ := (Fs.own hvf).form;replace hb2 := Bl.undrew hb2;have hA2 := hA.on hb2;have y1 : w2.cell? ⟨w.heap.size, 1, none⟩ = some (.slice pp lp.length cp) := hA2.cell 1)
  | (go_at_call 105;refine (HP.out w2 ((hp0.below hb2).mono hb2.size)).mono ?_;rintro e w3 ⟨vp', rfl, hvp, hb3⟩;obtain ⟨ap, kp, rfl, -⟩ := (Fs.own hvp).form;have hA3 := hA2.on hb3;have z1 : w3.cell? ⟨w.heap.size, 1, none⟩ = some (.slice pp lp.length cp) := hA3.cell 1;have z3 : w3.cell? ⟨w.heap.size, 3, none⟩ = some (.slice pf lf.length cf) := hA3.cell 3;have f1 := hA3.free 1;have f3 := hA3.free 3))
 all_goals
  have hA4 : Blk ((w3.setCell ⟨w.heap.size, 3, none⟩ (.slice af lf.length kf)).setCell ⟨w.heap.size, 1, none⟩ (.slice ap lp.length kp)) w.heap.size 36 #[S key, .slice ap lp.length kp, .int .i64 st, .slice af lf.length kf, S body, .int .i64 asked, .int .i64 came] := (by simpa using (hA3.set 3 (.slice af lf.length kf)).set 1 (.slice ap lp.length kp));have hB4 := (((hB.on hb2).on hb3).other (p := ⟨w.heap.size, 3, none⟩) (by simp) (.slice af lf.length kf)).other (p := ⟨w.heap.size, 1, none⟩) (by simp) (.slice ap lp.length kp);have hE : w.heap.size < w0.heap.size := hA.lt;have hw4 := ((Bl.tr (Bl.tr hb0 hb2) hb3).setCell (p := ⟨w.heap.size, 3, none⟩) (Nat.le_refl _) (.slice af lf.length kf)).setCell (p := ⟨w.heap.size, 1, none⟩) (Nat.le_refl _) (.slice ap lp.length kp);have o1 := ownsRow_setCell_below (ownsRow_setCell_below (own_below hvf hb3) (a := ⟨w.heap.size, 3, none⟩) hE (.slice af lf.length kf)) (a := ⟨w.heap.size, 1, none⟩) hE (.slice ap lp.length kp);have o2 := ownsRow_setCell_below (ownsRow_setCell_below hvp (a := ⟨w.heap.size, 3, none⟩) hA2.lt (.slice af lf.length kf)) (a := ⟨w.heap.size, 1, none⟩) hA2.lt (.slice ap lp.length kp);clear x1 x3 d1 d3 y1 z1 z3 f1 f3 hA3 hvf hvp;generalize ((w3.setCell ⟨w.heap.size, 3, none⟩ (.slice af lf.length kf)).setCell ⟨w.heap.size, 1, none⟩ (.slice ap lp.length kp)) = w4 at *;obtain ⟨x0, x1, x2, x3, x4, x5, x6⟩ := hA4.c7;obtain ⟨y0, y1, y2, y3, y4, y5, y6⟩ := hB4.c7;have f0 := hB4.free 0;have f1 := hB4.free 1;have f2 := hB4.free 2;have f3 := hB4.free 3;have f4 := hB4.free 4;have f5 := hB4.free 5;have f6 := hB4.free 6;go_wp2;have hB5 := hB4.put7 (S key) (.slice ap lp.length kp) (.int .i64 st) (.slice af lf.length kf) (S body) (.int .i64 asked) (.int .i64 came);have hz := hb0.size;have hz2 := hb2.size;have hzB := hB.lt;refine ret_copied rfl hB5 ⟨_, _, rfl, own_base (own_block o2 fun g cur _ hg => heap_put7 _ _ _ _ _ _ _ _ _ g (by omega)) (by omega), own_base (own_block o1 fun g cur _ hg => heap_put7 _ _ _ _ _ _ _ _ _ g (by have : w0.heap.size ≤ g := hg;omega)) (by show w.heap.size ≤ w0.heap.size;omega), put7_below hw4 (by omega) _ _ _ _ _ _ _⟩
end Go.Proofs.YtahapblgmehngaaGreatDoor
