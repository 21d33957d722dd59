/- Parts of the proof of DealAsks_holds: the texts Shq6 Shq9 Shb Rsp. -/
import Derived.Maps.OwnSet
import Derived.Deep.RegionLaw
import Derived.Deep.RegionWith
import Derived.Test.YtahapblgmehngaaGreatDoorA35
import Derived.Test.YtahapblgmehngaaGreatDoorA33
import Derived.Test.YtahapblgmehngaaGreatDoorA34
set_option linter.unusedSimpArgs false
set_option linter.unusedVariables false
set_option linter.unnecessarySimpa false
namespace Go.Proofs.YtahapblgmehngaaGreatDoor
open Go.RowKit Go.Dr

/-- What an entry reads as that is answered: its lists lie in rows of their own. -/
def RetE (x : It) (base : Nat) (v : Value) (w : World) : Prop := ∃ vp vf, v = .agg #[S x.key, vp, .int .i64 x.st, vf, S x.body, .int .i64 x.asked, .int .i64 x.came] ∧ w.ownsRow base 89 3 vp x.lp.length (fcells x.lp) ∧ w.ownsRow base 60 3 vf x.lf.length (fcells x.lf)

theorem RetE.low {x : It} {base base' : Nat} {v : Value} {w : World} (h : RetE x base v w) (hb : base' ≤ base) : RetE x base' v w := by
  obtain ⟨vp, vf, e, h1, h2⟩ := h
  exact ⟨vp, vf, e, own_base h1 hb, own_base h2 hb⟩
theorem RetE.below {x : It} {base : Nat} {v : Value} {w w' : World} (h : RetE x base v w) (hb : Below w.heap.size w w') : RetE x base v w' := by
  obtain ⟨vp, vf, e, h1, h2⟩ := h
  exact ⟨vp, vf, e, own_below h1 hb, own_below h2 hb⟩
theorem RetE.put7 {x : It} {base : Nat} {v : Value} {w : World} (h : RetE x base v w) {G : Nat} (hG : G < base) (b0 b1 b2 b3 b4 b5 b6 : Value) : RetE x base v (put7 w G b0 b1 b2 b3 b4 b5 b6) := by
  obtain ⟨vp, vf, e, h1, h2⟩ := h
  exact ⟨vp, vf, e, own_block h1 fun g cur _ hg => heap_put7 _ _ _ _ _ _ _ _ _ g (by omega), own_block h2 fun g cur _ hg => heap_put7 _ _ _ _ _ _ _ _ _ g (by omega)⟩

/-- A link's entry is copied. -/
theorem copied_nd {rb : Nat} (n : Nd) (w : World) (h : Rows rb w n) (hc : n.x.cost ≤ 1048576) :
    Calls Tryz.prog 66 #[entV n] w fun e w' => ∃ vp vf, e = .returned (.agg #[S n.x.key, vp, .int .i64 n.x.st, vf, S n.x.body, .int .i64 n.x.asked, .int .i64 n.x.came]) ∧ w'.ownsRow w.heap.size 89 3 vp n.x.lp.length (fcells n.x.lp) ∧ w'.ownsRow w.heap.size 60 3 vf n.x.lf.length (fcells n.x.lf) ∧ Below w.heap.size w w' := by
  have h1 := fsum_length n.x.lp
  have h2 := fsum_length n.x.lf
  unfold It.cost at hc
  exact copied_any n.en n.x.lp n.x.lf w (Fs.own h.1) (Fs.own h.2) (by omega) (by omega)

abbrev Ez : Array Value := #[S [], .slice none 0 0, .int .i64 0, .slice none 0 0, S [], .int .i64 0, .int .i64 0]

end Go.Proofs.YtahapblgmehngaaGreatDoor

namespace Go.Proofs.YtahapblgmehngaaGreatDoor
open Go.RowKit Go.Dr

/-- An entry in a row that is answered: its two lists, what it is. -/
structure Ev where
  vp : Value
  vf : Value
  x : It
def Ev.cells (v : Ev) : List Value := [S v.x.key, v.vp, .int .i64 v.x.st, v.vf, S v.x.body, .int .i64 v.x.asked, .int .i64 v.x.came]
def ecells (l : List Ev) : List Value := l.flatMap Ev.cells
def EvRows (base : Nat) (w : World) (v : Ev) : Prop := w.ownsRow base 89 3 v.vp v.x.lp.length (fcells v.x.lp) ∧ w.ownsRow base 60 3 v.vf v.x.lf.length (fcells v.x.lf)
theorem EvRows.low {base base' : Nat} {w : World} {v : Ev} (h : EvRows base w v) (hb : base' ≤ base) : EvRows base' w v := ⟨own_base h.1 hb, own_base h.2 hb⟩
theorem EvRows.block {base : Nat} {w w' : World} {v : Ev} (h : EvRows base w v) (hb : ∀ (g : Nat) (cur : Array Value), (w.heap[g]? = some (Obj.cells cur 89 (0, 0)) ∨ w.heap[g]? = some (Obj.cells cur 60 (0, 0))) → w'.heap[g]? = w.heap[g]?) : EvRows base w' v :=
  ⟨own_block h.1 fun g cur hg _ => hb g cur (.inl hg), own_block h.2 fun g cur hg _ => hb g cur (.inr hg)⟩

/-- The entries that are answered: their row, their lists. -/
structure Evs (base : Nat) (w : World) (v : Value) (l : List It) (evs : List Ev) : Prop where
  items : evs.map Ev.x = l
  row : w.ownsRow base 36 7 v evs.length (ecells evs)
  lists : ∀ e ∈ evs, EvRows base w e

end Go.Proofs.YtahapblgmehngaaGreatDoor

namespace Go.Proofs.YtahapblgmehngaaGreatDoor
open Go.RowKit Go.Dr

/-- What there was up to some place, but for what is replaced, is what went and what stays up to some place. -/
def Ends (p : Nd → Bool) (W D : List Nd) (H K : Nat) : Prop := ∃ E, (W.take H).filter (fun n => !p n) = E ++ D.take K
theorem Ends.skip {p : Nd → Bool} {W D : List Nd} {H K : Nat} (h : Ends p W D (H + 1) K) (hH : H < W.length) (hp : p W[H] = true) : Ends p W D H K := by
  obtain ⟨E, e⟩ := h
  refine ⟨E, ?_⟩
  rw [take_snoc W H hH, List.filter_append, List.filter_cons, hp] at e
  simpa using e
theorem Ends.step {p : Nd → Bool} {W D : List Nd} {H K : Nat} (h : Ends p W D (H + 1) (K + 1)) (hH : H < W.length) (hK : K < D.length) (hp : p W[H] = false) : W[H] = D[K] ∧ Ends p W D H K := by
  obtain ⟨E, e⟩ := h
  rw [take_snoc W H hH, take_snoc D K hK, List.filter_append, List.filter_cons, hp, ← List.append_assoc] at e
  simp only [Bool.not_false, if_true, List.filter_nil] at e
  obtain ⟨e1, e2⟩ := List.append_inj' e rfl
  exact ⟨by simpa using e2, E, e1⟩
theorem Evs.below {base : Nat} {w w' : World} {v : Value} {l : List It} {evs : List Ev} (h : Evs base w v l evs) (hb : Below w.heap.size w w') : Evs base w' v l evs := ⟨h.items, own_below h.row hb, fun e he => ⟨own_below (h.lists e he).1 hb, own_below (h.lists e he).2 hb⟩⟩
/-- The answered entries stay while the shelf turns. -/
theorem Evs.but {base fb rb : Nat} {w w' : World} {s R m : Nat} {most last : Int} {ls : List Nd} {v : Value} {l : List It} {evs : List Ev} (h : Evs base w v l evs) (hs : Sh fb rb w s R m most last ls) (hb : But (Foot s R m ls) w w') : Evs base w' v l evs :=
  ⟨h.items, own_block h.row fun g cur hg _ => hb.block g (Array.getElem?_eq_some_iff.1 hg).1 (hs.off hg (by decide) (by decide)), fun e he => (h.lists e he).block fun g cur hg => hb.block g (by rcases hg with hg | hg <;> exact (Array.getElem?_eq_some_iff.1 hg).1) (by
    rcases hg with hg | hg
    · exact hs.off hg (by decide) (by decide)
    · exact hs.off hg (by decide) (by decide))⟩
theorem Evs.len {base : Nat} {w : World} {v : Value} {l : List Nd} {evs : List Ev} (h : Evs base w v (l.map Nd.x) evs) : evs.length = l.length := by
  have := congrArg List.length h.items
  simpa using this
theorem Evs.get {base : Nat} {w : World} {v : Value} {l : List Nd} {evs : List Ev} (h : Evs base w v (l.map Nd.x) evs) (k : Nat) (hk : k < evs.length) (hk' : k < l.length) : evs[k].x = l[k].x := by
  have h1 : (evs.map Ev.x)[k]? = (l.map Nd.x)[k]? := by rw [h.items]
  rw [List.getElem?_map, List.getElem?_map, List.getElem?_eq_getElem hk, List.getElem?_eq_getElem hk'] at h1
  simpa using h1
end Go.Proofs.YtahapblgmehngaaGreatDoor

namespace Go.Proofs.YtahapblgmehngaaGreatDoor
open Go.RowKit Go.Dr

def Ev.icells (v : Ev) : List Value := .int .i64 v.x.id :: v.cells
def icells (l : List Ev) : List Value := l.flatMap Ev.icells
/-- A list that can be read: it lies below B, or in memory of its own kind. -/
def Fo (t : TypeId) (B : Nat) (w : World) (v : Value) (l : List F) : Prop := Fs B w v l ∨ w.ownsRow 0 t 3 v l.length (fcells l)
theorem Fo.fs {t : TypeId} {B : Nat} {w : World} {v : Value} {l : List F} (h : Fo t B w v l) (hB : B ≤ w.heap.size) : Fs w.heap.size w v l := h.elim (fun h => h.mono hB) Fs.own
theorem Fo.form {t : TypeId} {B : Nat} {w : World} {v : Value} {l : List F} (h : Fo t B w v l) : ∃ a cap, v = .slice a l.length cap ∧ l.length ≤ 9223372036854775807 := h.elim (fun h => Fs.form h) fun h => Fs.form (Fs.own h)
theorem Fo.below {t : TypeId} {B : Nat} {w w' : World} {v : Value} {l : List F} (h : Fo t B w v l) (hb : Below w.heap.size w w') (hB : B ≤ w.heap.size) : Fo t B w' v l := h.imp (fun h => h.below (hb.mono hB)) fun h => own_below h hb
theorem Fo.drew {t : TypeId} {B : Nat} {w : World} {v : Value} {l : List F} (h : Fo t B w v l) : Fo t B w.drew v l := h.imp (fun h => Rd.below h (Below.refl _ _).drew) fun h => own_block h fun _ _ _ _ => rfl
theorem Fo.but {t : TypeId} {B : Nat} {w w' : World} {v : Value} {l : List F} {T : Nat → Prop} (h : Fo t B w v l) (hb : But T w w') (hT : ∀ k, T k → B ≤ k) (hB : B ≤ w.heap.size) (ht : ∀ g cur, w.heap[g]? = some (.cells cur t (0, 0)) → ¬ T g) : Fo t B w' v l :=
  h.imp (fun h => h.below (hb.below hT hB)) fun h => own_block h fun g cur hg _ => hb.block g (Array.getElem?_eq_some_iff.1 hg).1 (ht g cur hg)
theorem Fo.but_s {t : TypeId} {B fb rb s R m : Nat} {most last : Int} {w w' : World} {v : Value} {l : List F} {nl : List Nd} (h : Fo t B w v l) (hs : Sh fb rb w s R m most last nl) (hlo : ∀ k, Foot s R m nl k → B ≤ k) (hB : B ≤ w.heap.size) (hb : But (Foot s R m nl) w w') (h1 : t ≠ 100) (h2 : t ≠ 97) : Fo t B w' v l :=
  h.but hb hlo hB fun g cur hg => hs.off hg h1 h2
/-- An entry's two lists can be read. -/
def EvFs (B : Nat) (w : World) (e : Ev) : Prop := Fo 89 B w e.vp e.x.lp ∧ Fo 60 B w e.vf e.x.lf
theorem EvFs.below {B : Nat} {w w' : World} {e : Ev} (h : EvFs B w e) (hb : Below w.heap.size w w') (hB : B ≤ w.heap.size) : EvFs B w' e := ⟨h.1.below hb hB, h.2.below hb hB⟩
/-- The document's shelf: its block, its row, the lists of its entries (B: below it nothing turns). -/
structure Rs (B : Nat) (w : World) (r : Nat) (most last : Int) (v : Value) (er : List Ev) : Prop where
  blk : Blk w r 70 #[.int .i64 most, .int .i64 last, v]
  row : w.ownsRow B 105 8 v er.length (icells er)
  lists : ∀ e ∈ er, EvFs B w e
  lo : B ≤ r
  room : (costs (er.map Ev.x) : Int) ≤ most
  most1 : most ≤ 1048576
theorem Rs.below {B : Nat} {w w' : World} {r : Nat} {most last : Int} {v : Value} {er : List Ev} (h : Rs B w r most last v er) (hb : Below w.heap.size w w') : Rs B w' r most last v er :=
  ⟨h.blk.on hb, own_below h.row hb, fun e he => (h.lists e he).below hb (Nat.le_trans h.lo (Nat.le_of_lt h.blk.lt)), h.lo, h.room, h.most1⟩
theorem Rs.drew {B : Nat} {w : World} {r : Nat} {most last : Int} {v : Value} {er : List Ev} (h : Rs B w r most last v er) : Rs B w.drew r most last v er := h.below (Below.refl _ _).drew
theorem Rs.at {B : Nat} {w : World} {r : Nat} {most last : Int} {v : Value} {er : List Ev} (h : Rs B w r most last v er) : B < w.heap.size := Nat.lt_of_le_of_lt h.lo h.blk.lt
/-- What the shelf's own blocks turn leaves the document's shelf. -/
theorem Rs.but {B fb rb : Nat} {w w' : World} {r s R m : Nat} {most last most' last' : Int} {v : Value} {er : List Ev} {l : List Nd} (h : Rs B w r most last v er) (hs : Sh fb rb w s R m most' last' l) (hb : But (Foot s R m l) w w') (hB : ∀ k, Foot s R m l k → B ≤ k) : Rs B w' r most last v er :=
  ⟨h.blk.but hb (hs.off h.blk (by decide) (by decide)), own_block h.row fun g cur hg _ => hb.block g (Array.getElem?_eq_some_iff.1 hg).1 (hs.off hg (by decide) (by decide)), fun e he => ⟨(h.lists e he).1.but_s hs hB (Nat.le_of_lt h.at) hb (by decide) (by decide), (h.lists e he).2.but_s hs hB (Nat.le_of_lt h.at) hb (by decide) (by decide)⟩, h.lo, h.room, h.most1⟩
theorem Rs.cost {B : Nat} {w : World} {r : Nat} {most last : Int} {v : Value} {er : List Ev} (h : Rs B w r most last v er) {e : Ev} (he : e ∈ er) : e.x.cost ≤ 1048576 := by
  have h1 := h.room
  have h2 := h.most1
  obtain ⟨a, b, rfl⟩ := List.append_of_mem he
  rw [List.map_append, List.map_cons, costs_append, costs_cons] at h1
  omega
theorem Rs.len {B : Nat} {w : World} {r : Nat} {most last : Int} {v : Value} {er : List Ev} (h : Rs B w r most last v er) : er.length ≤ 16384 := by
  have h1 := costs_len (er.map Ev.x)
  rw [List.length_map] at h1
  have := h.room
  have := h.most1
  omega
end Go.Proofs.YtahapblgmehngaaGreatDoor

