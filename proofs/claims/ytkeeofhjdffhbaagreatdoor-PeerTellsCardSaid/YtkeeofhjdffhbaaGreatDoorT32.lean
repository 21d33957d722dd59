/- Parts of the proof of pt_root: the texts Cns Cnw2 Hpk8. -/
import Derived.Maps.AppendAt
import Derived.Test.YtkeeofhjdffhbaaGreatDoorT31
import Derived.Test.YtkeeofhjdffhbaaGreatDoorT30
set_option linter.unusedSimpArgs false
set_option linter.unusedVariables false
set_option linter.unnecessarySimpa false
namespace Go.Proofs.YtkeeofhjdffhbaaGreatDoor
open Go Go.RowKit Go.Dr
/-- a live stream -/
structure Sp where
 came : Int := 0
 said : Int := 0
 told : Bool := false
 headed : Bool := false
 pend : Bytes := []
 ends : Bool := false
 st : Int
 deriving DecidableEq
def Sp.cells (s : Sp) (pv : Value) : Array Value := #[.int .i64 s.came, .int .i64 s.said, .bool s.told, .bool s.headed, pv, .bool s.ends, .int .i64 s.st]
/-- a connection -/
structure Cq where
 str : Int
 win : Int
 tab : Int
 lst : Int
 frames : Int := 16384
 live : List (Int × Sp) := []
 closed : List Int := []
 how : List (Int × Int) := []
 last : Int := 0
 fo : Int := 0
 endOf : Bool := false
 greeted : Bool := false
 drained : Bool := false
 floor : Int := 0
 over : Bool := false
 bytes : Bytes := []
 news : List Value := []
 pre : Nat := 0
 all : Int := 65535
 first : Int := 65535
 off : List (Int × Int) := []
 tm : Int := 4096
 brk : Bool := false
 told : Int := 4096
 least : Int := 4096
/-- the names of a connection's blocks -/
structure Nm where
 B : Nat
 c : Nat
 fb : Nat
 d : Nat
 t1 : Nat
 e : Nat
 t2 : Nat
 bk : Nat
 lm : Nat
 hm : Nat
 om : Nat
 b1 : Nat
 n1 : Nat
 b2 : Nat
 n2 : Nat
/-- the rows of a connection, the blocks of its streams, the rows of what waits in them -/
structure Mm where
 bv : Value := .slice none 0 0
 nv : Value := .slice none 0 0
 cv : Value := .slice none 0 0
 sb : Int → Nat
 sv : Int → Value
def ccells (n : Nm) (m : Mm) (q : Cq) : Array Value := #[.int .i64 q.str, .int .i64 q.win, .int .i64 q.tab, .int .i64 q.lst, Ptr n.fb, Ptr n.d, Ptr n.e, Ptr n.bk, .int .i64 q.frames, .map (some n.lm), m.cv, .map (some n.hm), .int .i64 q.last, .slice none 0 0, .int .i64 q.fo, .bool q.endOf, .bool q.greeted, .bool q.drained, .int .i64 q.floor, .bool q.over, m.bv, m.nv]
/-- all blocks of a connection -/
def Foot (n : Nm) (m : Mm) (q : Cq) (g : Nat) : Prop :=
 (g = n.c ∨ g = n.fb ∨ g = n.d ∨ g = n.t1 ∨ g = n.e ∨ g = n.t2 ∨ g = n.bk ∨ g = n.lm ∨ g = n.hm ∨ g = n.om) ∨ (g = n.b1 ∨ g = n.n1 ∨ g = n.b2 ∨ g = n.n2) ∨ (some g = m.bv.ownBlock ∨ some g = m.nv.ownBlock ∨ some g = m.cv.ownBlock) ∨ ∃ p ∈ q.live, g = m.sb p.1 ∨ some g = (m.sv p.1).ownBlock
/-- what kind a block is of: 0: a map;k + 1: cells of type k -/
def kd (w : World) (g : Nat) : Nat := match w.heap[g]? with
 | some (.cells _ t _) => t + 1
 | some (.map _ _) => 0
 | _ => 1000000
theorem kd_blk {w : World} {g : Nat} {t : TypeId} {xs : Array Value} (h : Blk w g t xs) : kd w g = t + 1 := by
 have h' : w.heap[g]? = some (.cells xs t (0, 0)) := h
 simp only [kd, h']
theorem kd_map {w : World} {g n : Nat} {es : Array MapEntry} (h : w.heap[g]? = some (.map es n)) : kd w g = 0 := by simp only [kd, h]
theorem own_kin {w : World} {base : Nat} {e : TypeId} {size : Nat} {v : Value} {n : Nat} {xs : List Value} {g : Nat} (h : w.ownsRow base e size v n xs) (hv : v.ownBlock = some g) : ∃ cur, w.heap[g]? = some (.cells cur e (0, 0)) := by
 rcases h.2 with ⟨rfl, _⟩ | ⟨g', cap, cur, rfl, _, hg, _⟩
 ·cases hv
 ·cases hv
  exact ⟨cur, hg⟩
theorem kd_own {w : World} {base : Nat} {e : TypeId} {size : Nat} {v : Value} {n : Nat} {xs : List Value} (h : w.ownsRow base e size v n xs) {g : Nat} (hg : some g = v.ownBlock) : kd w g = e + 1 := by
 obtain ⟨cur, hc⟩ := own_kin h hg.symm
 simp only [kd, hc]
theorem kd_same {w w' : World} {g : Nat} (h : w'.heap[g]? = w.heap[g]?) : kd w' g = kd w g := by simp only [kd, h]
theorem own_lt {w : World} {base : Nat} {e : TypeId} {size : Nat} {v : Value} {n : Nat} {xs : List Value} (h : w.ownsRow base e size v n xs) {g : Nat} (hg : some g = v.ownBlock) : base ≤ g ∧ g < w.heap.size := h.lt g hg.symm
theorem own_same {w w' : World} {base : Nat} {e : TypeId} {size : Nat} {v : Value} {n : Nat} {xs : List Value} (h : w.ownsRow base e size v n xs) (hb : ∀ g, some g = v.ownBlock → w'.heap[g]? = w.heap[g]?) : w'.ownsRow base e size v n xs := by
 refine ⟨h.1, ?_⟩
 rcases h.2 with hn | ⟨g, cap, cur, rfl, hbg, hgg, rest⟩
 ·exact .inl hn
 ·exact .inr ⟨g, cap, cur, rfl, hbg, (hb g rfl).trans hgg, rest⟩
abbrev LMp (w : World) (m : Nat) (l : List (Int × Nat)) : Prop := GMap Tryz.prog 3 Rp Li En' w m l
abbrev IMp (w : World) (m : Nat) (l : List (Int × Int)) : Prop := GMap Tryz.prog 3 Ri Li Ei w m l
structure Cx (w : World) (n : Nm) (m : Mm) (q : Cq) : Prop where
 blk : Blk w n.c 126 (ccells n m q)
 feed : Blk w n.fb 158 #[.int .i64 ((16384 : Nat) : Int), .int .i64 (q.pre : Int), .slice none 0 0, .bool false]
 dec : Blk w n.d 163 #[.int .i64 q.tab, .int .i64 q.lst, Ptr n.t1, .bool q.brk]
 t1 : Blk w n.t1 210 #[.int .i64 q.tm, .int .i64 0, .slice none 0 0, .int .i64 0, .map (some n.b1), .map (some n.n1)]
 b1 : w.heap[n.b1]? = some (.map #[] 0)
 n1 : w.heap[n.n1]? = some (.map #[] 0)
 enc : Blk w n.e 181 #[.int .i64 4096, .int .i64 q.told, .int .i64 q.least, Ptr n.t2]
 t2 : Blk w n.t2 210 #[.int .i64 4096, .int .i64 0, .slice none 0 0, .int .i64 0, .map (some n.b2), .map (some n.n2)]
 b2 : w.heap[n.b2]? = some (.map #[] 0)
 n2 : w.heap[n.n2]? = some (.map #[] 0)
 book : Blk w n.bk 183 #[.int .i64 q.all, .int .i64 q.first, .map (some n.om)]
 off : IMp w n.om q.off
 how : IMp w n.hm q.how
 live : LMp w n.lm (q.live.map fun p => (p.1, m.sb p.1))
 side : ∀ p ∈ q.live, Blk w (m.sb p.1) 140 (p.2.cells (m.sv p.1))
 pend : ∀ p ∈ q.live, w.ownsRow n.B 5 1 (m.sv p.1) p.2.pend.length (p.2.pend.map B8)
 bytes : w.ownsRow n.B 5 1 m.bv q.bytes.length (q.bytes.map B8)
 news : ∃ k, w.ownsRow n.B 84 10 m.nv k q.news
 closed : w.ownsRow n.B 3 1 m.cv q.closed.length (q.closed.map fun x => .int .i64 x)
 tt : n.t1 ≠ n.t2
 maps : n.lm ≠ n.hm ∧ n.lm ≠ n.om ∧ n.hm ≠ n.om ∧ (n.b1 ≠ n.lm ∧ n.b1 ≠ n.hm ∧ n.b1 ≠ n.om) ∧ (n.n1 ≠ n.lm ∧ n.n1 ≠ n.hm ∧ n.n1 ≠ n.om) ∧ (n.b2 ≠ n.lm ∧ n.b2 ≠ n.hm ∧ n.b2 ≠ n.om) ∧ (n.n2 ≠ n.lm ∧ n.n2 ≠ n.hm ∧ n.n2 ≠ n.om)
 bp : ∀ p ∈ q.live, ∀ g, some g = (m.sv p.1).ownBlock → some g ≠ m.bv.ownBlock
 ss : ∀ p ∈ q.live, ∀ p' ∈ q.live, p.1 ≠ p'.1 → m.sb p.1 ≠ m.sb p'.1 ∧ ∀ g, some g = (m.sv p.1).ownBlock → some g ≠ (m.sv p'.1).ownBlock
 lo : ∀ g, Foot n m q g → n.B ≤ g
variable {w w' : World} {n : Nm} {m : Mm} {q : Cq}
theorem Cx.foot_lt (h : Cx w n m q) {g : Nat} (hg : Foot n m q g) : g < w.heap.size := by
 rcases hg with hg | hg | hg | ⟨p, hp, hg⟩
 ·rcases hg with rfl | rfl | rfl | rfl | rfl | rfl | rfl | rfl | rfl | rfl
  ·exact h.blk.lt
  ·exact h.feed.lt
  ·exact h.dec.lt
  ·exact h.t1.lt
  ·exact h.enc.lt
  ·exact h.t2.lt
  ·exact h.book.lt
  ·exact h.live.lt
  ·exact h.how.lt
  ·exact h.off.lt
 ·rcases hg with rfl | rfl | rfl | rfl
  ·exact lt_of_block h.b1
  ·exact lt_of_block h.n1
  ·exact lt_of_block h.b2
  ·exact lt_of_block h.n2
 ·obtain ⟨k, hn⟩ := h.news
  rcases hg with hg | hg | hg
  ·exact (own_lt h.bytes hg).2
  ·exact (own_lt hn hg).2
  ·exact (own_lt h.closed hg).2
 ·rcases hg with rfl | hg
  ·exact (h.side p hp).lt
  ·exact (own_lt (h.pend p hp) hg).2
theorem Foot.c (n : Nm) (m : Mm) (q : Cq) : Foot n m q n.c := .inl (.inl rfl)
/-- a connection stays where its blocks do -/
theorem Cx.keep (h : Cx w n m q) (hk : ∀ g, Foot n m q g → w'.heap[g]? = w.heap[g]?) : Cx w' n m q where
 blk := h.blk.block (hk _ (.inl (by simp)))
 feed := h.feed.block (hk _ (.inl (by simp)))
 dec := h.dec.block (hk _ (.inl (by simp)))
 t1 := h.t1.block (hk _ (.inl (by simp)))
 b1 := (hk _ (.inr (.inl (by simp)))).trans h.b1
 n1 := (hk _ (.inr (.inl (by simp)))).trans h.n1
 enc := h.enc.block (hk _ (.inl (by simp)))
 t2 := h.t2.block (hk _ (.inl (by simp)))
 b2 := (hk _ (.inr (.inl (by simp)))).trans h.b2
 n2 := (hk _ (.inr (.inl (by simp)))).trans h.n2
 book := h.book.block (hk _ (.inl (by simp)))
 off := h.off.block (hk _ (.inl (by simp)))
 how := h.how.block (hk _ (.inl (by simp)))
 live := h.live.block (hk _ (.inl (by simp)))
 side := fun p hp => (h.side p hp).block (hk _ (.inr (.inr (.inr ⟨p, hp, .inl rfl⟩))))
 pend := fun p hp => own_same (h.pend p hp) fun g hg => hk _ (.inr (.inr (.inr ⟨p, hp, .inr hg⟩)))
 bytes := own_same h.bytes fun g hg => hk _ (.inr (.inr (.inl (.inl hg))))
 news := let ⟨k, hn⟩ := h.news;⟨k, own_same hn fun g hg => hk _ (.inr (.inr (.inl (.inr (.inl hg)))))⟩
 closed := own_same h.closed fun g hg => hk _ (.inr (.inr (.inl (.inr (.inr hg)))))
 tt := h.tt
 maps := h.maps
 bp := h.bp
 ss := h.ss
 lo := h.lo
theorem Cx.on (h : Cx w n m q) (hb : Below w.heap.size w w') : Cx w' n m q := h.keep fun g hg => hb.block g (h.foot_lt hg)
theorem Cx.drew (h : Cx w n m q) : Cx w.drew n m q := h.keep fun _ _ => rfl
/-- the kinds of a connection's blocks -/
theorem Cx.kinds (h : Cx w n m q) : kd w n.c = 126 + 1 ∧ kd w n.fb = 158 + 1 ∧ kd w n.d = 163 + 1 ∧ kd w n.t1 = 210 + 1 ∧ kd w n.e = 181 + 1 ∧ kd w n.t2 = 210 + 1 ∧ kd w n.bk = 183 + 1 ∧ kd w n.lm = 0 ∧ kd w n.hm = 0 ∧ kd w n.om = 0 ∧ kd w n.b1 = 0 ∧ kd w n.n1 = 0 ∧ kd w n.b2 = 0 ∧ kd w n.n2 = 0 ∧ (∀ g, some g = m.bv.ownBlock → kd w g = 5 + 1) ∧ (∀ g, some g = m.nv.ownBlock → kd w g = 84 + 1) ∧ (∀ g, some g = m.cv.ownBlock → kd w g = 3 + 1) ∧ (∀ p ∈ q.live, kd w (m.sb p.1) = 140 + 1 ∧ ∀ g, some g = (m.sv p.1).ownBlock → kd w g = 5 + 1) := by
 obtain ⟨k, hn⟩ := h.news
 obtain ⟨_, _, hl⟩ := h.live.obj
 obtain ⟨_, _, hh⟩ := h.how.obj
 obtain ⟨_, _, ho⟩ := h.off.obj
 exact ⟨kd_blk h.blk, kd_blk h.feed, kd_blk h.dec, kd_blk h.t1, kd_blk h.enc, kd_blk h.t2, kd_blk h.book, kd_map hl, kd_map hh, kd_map ho, kd_map h.b1, kd_map h.n1, kd_map h.b2, kd_map h.n2, fun g hg => kd_own h.bytes hg, fun g hg => kd_own hn hg, fun g hg => kd_own h.closed hg, fun p hp => ⟨kd_blk (h.side p hp), fun g hg => kd_own (h.pend p hp) hg⟩⟩
/-- a connection with all its blocks F -/
def Cw (w : World) (n : Nm) (q : Cq) (F : Nat → Prop) : Prop := ∃ m, Cx w n m q ∧ F = Foot n m q
theorem Cw.on {F : Nat → Prop} (h : Cw w n q F) (hb : Below w.heap.size w w') : Cw w' n q F := let ⟨m, h1, h2⟩ := h;⟨m, h1.on hb, h2⟩
theorem Cw.drew {F : Nat → Prop} (h : Cw w n q F) : Cw w.drew n q F := let ⟨m, h1, h2⟩ := h;⟨m, h1.drew, h2⟩
theorem Cw.lt {F : Nat → Prop} (h : Cw w n q F) {g : Nat} (hg : F g) : g < w.heap.size := by
 obtain ⟨m, h1, rfl⟩ := h
 exact h1.foot_lt hg
theorem Cw.lo {F : Nat → Prop} (h : Cw w n q F) {g : Nat} (hg : F g) : n.B ≤ g := by
 obtain ⟨m, h1, rfl⟩ := h
 exact h1.lo g hg
/-- what became of a connection -/
def Goes (w : World) (n : Nm) (F : Nat → Prop) (w' : World) (q' : Cq) : Prop := ∃ F', Cw w' n q' F' ∧ But F w w' ∧ ∀ g, F' g → F g ∨ w.heap.size ≤ g
theorem Goes.trans {a b c : World} {n : Nm} {F : Nat → Prop} {q q' : Cq} (h : Goes a n F b q) (k : ∀ F1, Cw b n q F1 → Goes b n F1 c q') : Goes a n F c q' := by
 obtain ⟨F1, h1, h2, h3⟩ := h
 obtain ⟨F2, k1, k2, k3⟩ := k F1 h1
 refine ⟨F2, k1, h2.trans2 k2 h3, fun g hg => ?_⟩
 rcases k3 g hg with hg | hg
 ·exact h3 g hg
 ·exact .inr (Nat.le_trans h2.size hg)
theorem Goes.refl {F : Nat → Prop} (h : Cw w n q F) : Goes w n F w q := ⟨F, h, But.refl _ _, fun _ hg => .inl hg⟩
theorem Goes.on {F : Nat → Prop} {w1 w2 : World} (h : Goes w n F w1 q) (hb : Below w1.heap.size w1 w2) : Goes w n F w2 q := by
 obtain ⟨F1, h1, h2, h3⟩ := h
 exact ⟨F1, h1.on hb, h2.trans (But.of_below hb), h3⟩
theorem Goes.first {F : Nat → Prop} {w1 w2 : World} (h : Cw w n q F) (hb : Below w.heap.size w w1) {q' : Cq} (hg : Goes w1 n F w2 q') : Goes w n F w2 q' := by
 obtain ⟨F1, h1, h2, h3⟩ := hg
 refine ⟨F1, h1, (But.of_below hb).trans h2, fun g hg => ?_⟩
 rcases h3 g hg with hg | hg
 ·exact .inl hg
 ·exact .inr (Nat.le_trans hb.size hg)
theorem Goes.below {F : Nat → Prop} (h0 : Cw w n q F) {q' : Cq} (h : Goes w n F w' q') (hB : n.B ≤ w.heap.size) : Below n.B w w' := by
 obtain ⟨F1, h1, h2, h3⟩ := h
 exact h2.below (fun k hk => h0.lo hk) hB
/-- .. its blocks named -/
structure GoesF (w : World) (n : Nm) (F : Nat → Prop) (w' : World) (q' : Cq) (F' : Nat → Prop) : Prop where
 h : Cw w' n q' F'
 b : But F w w'
 s : ∀ g, F' g → F g ∨ w.heap.size ≤ g
theorem GoesF.refl {F : Nat → Prop} (h : Cw w n q F) : GoesF w n F w q F := ⟨h, But.refl _ _, fun _ hg => .inl hg⟩
/-- one step more -/
theorem GoesF.step {F F1 : Nat → Prop} {w1 w2 : World} {q1 q2 : Cq} (h : GoesF w n F w1 q1 F1) (k : Goes w1 n F1 w2 q2) : ∃ F2, GoesF w n F w2 q2 F2 := by
 obtain ⟨F2, k1, k2, k3⟩ := k
 refine ⟨F2, k1, h.b.trans2 k2 h.s, fun g hg => ?_⟩
 rcases k3 g hg with hg | hg
 ·exact h.s g hg
 ·exact .inr (Nat.le_trans h.b.size hg)
theorem GoesF.on {F F1 : Nat → Prop} {w1 w2 : World} (h : GoesF w n F w1 q F1) (hb : Below w1.heap.size w1 w2) : GoesF w n F w2 q F1 := ⟨h.h.on hb, h.b.trans (But.of_below hb), h.s⟩
end Go.Proofs.YtkeeofhjdffhbaaGreatDoor
namespace Go.Proofs.YtkeeofhjdffhbaaGreatDoor
open Go Go.RowKit Go.Dr
theorem but_grow {w w' : World} {row : Option Nat} (hg : w.grownBy w' row) : But (fun g => some g = row) w w' :=
 ⟨hg.os, hg.tape, hg.output, hg.size, fun i hi hS => hg.block i hi hS⟩
theorem wp_cut {P : Program} {c : Code} {Q : Exit → Act → World → Prop} {a : Act} {W : World} (R : World → Prop) (hR : R W) (h : ∀ W', R W' → Code.wp P c Q a W') : Code.wp P c Q a W := h W hR
variable {w w' : World} {n : Nm} {m m' : Mm} {q q' : Cq}
theorem Foot.bv {g : Nat} (h : some g = m.bv.ownBlock) : Foot n m q g := .inr (.inr (.inl (.inl h)))
theorem Foot.nv {g : Nat} (h : some g = m.nv.ownBlock) : Foot n m q g := .inr (.inr (.inl (.inr (.inl h))))
theorem Foot.cv {g : Nat} (h : some g = m.cv.ownBlock) : Foot n m q g := .inr (.inr (.inl (.inr (.inr h))))
theorem Foot.lm : Foot n m q n.lm := .inl (by simp)
theorem Foot.hm : Foot n m q n.hm := .inl (by simp)
theorem Foot.om : Foot n m q n.om := .inl (by simp)
theorem Foot.bk : Foot n m q n.bk := .inl (by simp)
theorem Foot.e : Foot n m q n.e := .inl (by simp)
theorem Foot.d : Foot n m q n.d := .inl (by simp)
theorem Foot.t1 : Foot n m q n.t1 := .inl (by simp)
theorem Foot.fb : Foot n m q n.fb := .inl (by simp)
theorem Foot.side {p : Int × Sp} (hp : p ∈ q.live) : Foot n m q (m.sb p.1) := .inr (.inr (.inr ⟨p, hp, .inl rfl⟩))
end Go.Proofs.YtkeeofhjdffhbaaGreatDoor
namespace Go.Proofs.YtkeeofhjdffhbaaGreatDoor
open Go Go.RowKit Go.Dr
/-- a reader: what is left, what it read -/
def RS (w : World) (r d B base : Nat) (bs : Bytes) (l : List F) (cost ch : Int) : Prop :=
 ∃ v fv, Blk w r 219 #[Ptr d, v, fv, .int .i64 cost, .int .i64 ch] ∧ By B w v bs ∧ w.ownsRow base 41 3 fv l.length (fcells l)
set_option maxRecDepth 100000 in
set_option maxHeartbeats 4000000 in
/-- nothing goes of a table that is empty -/
theorem Shrink_empty {t : Nat} {most gone : Int} {a b : Value} (n : Int) (hn : 0 ≤ n) (w : World) (h : Blk w t 210 #[.int .i64 most, .int .i64 0, .slice none 0 0, .int .i64 gone, a, b]) :
  Calls Tryz.prog 204 #[Ptr t, .int .i64 n] w fun e w' => e = .returned (.tuple #[]) ∧ w' = w := by
 have y1 : w.cell? ⟨t, 1, none⟩ = some (.int .i64 0) := h.cell 1
 have hq : ¬ n < 0 := by omega
 go_enter Tryz.func204, Tryz.ntmps204
 go_wp2
 refine wp_loop_rounds 1 ?_
 rw [rounds_succ]
 go_wp2
 go_end0
 exact ⟨rfl, rfl⟩
/-- bytes stay where another block's cell turns -/
theorem By.off {B : Nat} {w : World} {v : Value} {bs : Bytes} (h : By B w v bs) {t : Nat} {T : TypeId} {xs : Array Value} (hT : Blk w t T xs) (hx : ∀ (j : Nat) (c : UInt8), xs[j]? ≠ some (B8 c)) (k : Nat) (u : Value) : By B (w.setCell ⟨t, k, none⟩ u) v bs := by
 obtain ⟨a, cap, h1, h2, h3, h4, h5, h6⟩ := h
 refine ⟨a, cap, h1, h2, h3, h4, h5, fun j y hy => ?_⟩
 obtain ⟨b, off, e1, e2, e3⟩ := h6 j y hy
 refine ⟨b, off, e1, e2, ?_⟩
 have hne : b ≠ t := fun e => by
  subst e
  have hc := hT.cell (off + j)
  rw [e3] at hc
  obtain ⟨c, -, rfl⟩ := List.mem_map.1 (List.mem_of_getElem? hy)
  exact hx _ c hc.symm
 rw [← e3]
 simp only [World.cell?, Below.heap_setCell w ⟨t, k, none⟩ u b hne]
/-- how many bytes a field counts -/
def fcost (f : F) : Int := (f.n.length : Int) + (f.v.length : Int) + 32
set_option maxRecDepth 100000 in
set_option maxHeartbeats 4000000 in
/-- the first byte that is left -/
theorem RS.head {w : World} {r d B base : Nat} {c : UInt8} {rest : Bytes} {l : List F} {cost ch : Int} (h : RS w r d B base (c :: rest) l cost ch) : ∃ b off cv, w.cell? ⟨r, 1, none⟩ = some (.slice (some ⟨b, off, none⟩) (c :: rest).length cv) ∧ w.cell? ⟨b, off, none⟩ = some (.int .u8 (c.toNat : Int)) ∧ (c :: rest).length ≤ 9223372036854775807 := by
 obtain ⟨v, fv, hR, hB, ho⟩ := h
 obtain ⟨av, cv, rfl, hcv, hcm⟩ := hB.form
 obtain ⟨b, off, rfl, hb, x0⟩ := hB.at 0 (by simp)
 exact ⟨b, off, cv, hR.cell 1, x0, by omega⟩
set_option maxRecDepth 100000 in
set_option maxHeartbeats 4000000 in
/-- a part that is a row's number -/
theorem Part_row {r d t B base : Nat} {cost ch : Int} (k : Nat) (c : UInt8) (rest : Bytes) (l : List F) (f : F) (hc : 128 ≤ c.toNat) (hbt : Go.bits .and .i64 (c.toNat : Int) ((2 ^ 7 - 1 : Nat) : Int) = (k : Int)) (hk : k + 1 < 128) (w : World) (hS : RS w r d B base (c :: rest) l cost ch) (hBr : B ≤ r) (hbr : r < base) (hbw : base ≤ w.heap.size) (hd : w.cell? ⟨d, 2, none⟩ = some (Ptr t)) (hdl : d < w.heap.size) (hdr : d ≠ r) (hfn : f.n.length ≤ 1048576) (hfv : f.v.length ≤ 1048576) (hc0 : 0 ≤ cost) (hc1 : cost ≤ 1099511627776) (hll : l.length ≤ 100000)
  (hRow : ∀ w : World, w.cell? ⟨r, 0, none⟩ = some (Ptr d) → w.cell? ⟨d, 2, none⟩ = some (Ptr t) → r < w.heap.size → d < w.heap.size → Calls Tryz.prog 166 #[Ptr r, .int .i64 (k : Int)] w fun e w' => e = .returned (.agg #[S f.n, S f.v, .bool f.m]) ∧ Below w.heap.size w w') :
  Calls Tryz.prog 118 #[Ptr r] w fun e w' => e = .returned (.tuple #[]) ∧ RS w' r d B base rest (l ++ [f]) (cost + fcost f) ch ∧ But (fun k => k = r ∨ base ≤ k) w w' := by
 obtain ⟨b, off, cv, y1, x0, hlen⟩ := hS.head
 obtain ⟨v, fv, hR, hB, ho⟩ := hS
 have hN := Number_byte 7 k c rest (.inr (.inr (.inr rfl))) hbt hk w hR hB hBr
 have hcc : (128 : Int) ≤ (c.toNat : Int) := by omega
 have hlz : (0 : Int) < ((c :: rest).length : Int) := by simp
 clear hB
 go_enter Tryz.func118, Tryz.ntmps118
 go_wp2_with first
  | (go_at_call 167;refine hN.mono ?_;rintro e w2 ⟨rfl, ⟨v2, hR2, hB2⟩, hb2⟩;have p0 : w2.cell? ⟨r, 0, none⟩ = some (Ptr d) := hR2.cell 0;have p2 : w2.cell? ⟨d, 2, none⟩ = some (Ptr t) := (by rw [← hd];simp only [World.cell?, hb2.block d hdl hdr]);have hRw := hRow w2 p0 p2 hR2.lt (Nat.lt_of_lt_of_le hdl hb2.size);have ho2 := own_same ho (fun g hg => hb2.block g (own_lt ho hg).2 (fun e => by have := (own_lt ho hg).1;have e' : g = r := e;omega)))
  | (go_at_call 166;(with_reducible refine hRw.mono ?_);rintro e w3 ⟨rfl, hb3⟩;have hR3 := hR2.on hb3;have hz3 := hb3.size;have hz2 := hb2.size;have ho3 := own_below ho2 hb3;have hB3 := hB2.below (hb3.mono (show B ≤ w2.heap.size by omega));have hPut := Put_any l f w3 base hR3 hbr (by omega) ho3 hfn hfv hc0 hc1 hll)
  | (go_at_call 165;(with_reducible refine hPut.mono ?_);rintro e w4 ⟨rfl, a4, c4, hR4, ho4, hb4⟩)
 go_end0
 refine ⟨rfl, ⟨v2, _, hR4, hB3.below (hb4.below (fun k hk => by omega) (show B ≤ w3.heap.size by omega)), by rw [List.length_append];exact ho4⟩, ((hb2.more (fun _ h => .inl h)).trans (But.of_below hb3)).trans hb4⟩
end Go.Proofs.YtkeeofhjdffhbaaGreatDoor
