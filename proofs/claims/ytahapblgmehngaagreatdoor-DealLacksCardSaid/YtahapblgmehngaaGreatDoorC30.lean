/- Parts of the proof of DealLacks_holds: the texts Rsp. -/
import Derived.Test.YtahapblgmehngaaGreatDoorC29
set_option linter.unusedSimpArgs false
set_option linter.unusedVariables false
set_option linter.unnecessarySimpa false
namespace Go.Proofs.YtahapblgmehngaaGreatDoor
open Go.RowKit Go.Dr

def Ev.icells (v : Ev) : List Value := .int .i64 v.x.id :: v.cells
def icells (l : List Ev) : List Value := l.flatMap Ev.icells
theorem icells_append (a b : List Ev) : icells (a ++ b) = icells a ++ icells b := by simp [icells]
theorem icells_length (l : List Ev) : (icells l).length = l.length * 8 := flat_length Ev.icells 8 (fun _ => rfl) l
theorem icells_take (l : List Ev) (k : Nat) (h : k ≤ l.length) : (icells l).take (k * 8) = icells (l.take k) := by
  conv => lhs; rw [← List.take_append_drop k l, icells_append]
  rw [List.take_left' (by rw [icells_length, List.length_take, Nat.min_eq_left h])]
theorem icells_drop (l : List Ev) (k : Nat) (h : k ≤ l.length) : (icells l).drop (k * 8) = icells (l.drop k) := by
  conv => lhs; rw [← List.take_append_drop k l, icells_append]
  rw [List.drop_left' (by rw [icells_length, List.length_take, Nat.min_eq_left h])]
/-- A list that can be read: it lies below B, or in memory of its own kind. -/
def Fo (t : TypeId) (B : Nat) (w : World) (v : Value) (l : List F) : Prop := Fs B w v l ∨ w.ownsRow 0 t 3 v l.length (fcells l)
theorem Fo.fs {t : TypeId} {B : Nat} {w : World} {v : Value} {l : List F} (h : Fo t B w v l) (hB : B ≤ w.heap.size) : Fs w.heap.size w v l := h.elim (fun h => h.mono hB) Fs.own
theorem Fo.form {t : TypeId} {B : Nat} {w : World} {v : Value} {l : List F} (h : Fo t B w v l) : ∃ a cap, v = .slice a l.length cap ∧ l.length ≤ 9223372036854775807 := h.elim (fun h => Fs.form h) fun h => Fs.form (Fs.own h)
theorem Fo.below {t : TypeId} {B : Nat} {w w' : World} {v : Value} {l : List F} (h : Fo t B w v l) (hb : Below w.heap.size w w') (hB : B ≤ w.heap.size) : Fo t B w' v l := h.imp (fun h => h.below (hb.mono hB)) fun h => own_below h hb
theorem Fo.drew {t : TypeId} {B : Nat} {w : World} {v : Value} {l : List F} (h : Fo t B w v l) : Fo t B w.drew v l := h.imp (fun h => Rd.below h (Below.refl _ _).drew) fun h => own_block h fun _ _ _ _ => rfl
theorem Fo.but {t : TypeId} {B : Nat} {w w' : World} {v : Value} {l : List F} {T : Nat → Prop} (h : Fo t B w v l) (hb : But T w w') (hT : ∀ k, T k → B ≤ k) (hB : B ≤ w.heap.size) (ht : ∀ g cur, w.heap[g]? = some (.cells cur t (0, 0)) → ¬ T g) : Fo t B w' v l :=
  h.imp (fun h => h.below (hb.below hT hB)) fun h => own_block h fun g cur hg _ => hb.block g (Array.getElem?_eq_some_iff.1 hg).1 (ht g cur hg)
theorem Fo.but_r {t : TypeId} {B r : Nat} {w w' : World} {v : Value} {l : List F} {xs : Array Value} (h : Fo t B w v l) (hr : Blk w r 70 xs) (hlo : B ≤ r) (hb : But (fun k => k = r) w w') (ht : t ≠ 70) : Fo t B w' v l :=
  h.but hb (fun k hk => by rw [hk]; exact hlo) (Nat.le_trans hlo (Nat.le_of_lt hr.lt)) fun g cur hg e => by
    have hr' : w.heap[r]? = some (.cells xs 70 (0, 0)) := hr
    rw [show g = r from e, hr'] at hg
    simp only [Option.some.injEq, Obj.cells.injEq] at hg
    exact ht hg.2.1.symm
theorem Fo.but_s {t : TypeId} {B fb rb s R m : Nat} {most last : Int} {w w' : World} {v : Value} {l : List F} {nl : List Nd} (h : Fo t B w v l) (hs : Sh fb rb w s R m most last nl) (hlo : ∀ k, Foot s R m nl k → B ≤ k) (hB : B ≤ w.heap.size) (hb : But (Foot s R m nl) w w') (h1 : t ≠ 100) (h2 : t ≠ 97) : Fo t B w' v l :=
  h.but hb hlo hB fun g cur hg => hs.off hg h1 h2
/-- An entry's two lists can be read. -/
def EvFs (B : Nat) (w : World) (e : Ev) : Prop := Fo 89 B w e.vp e.x.lp ∧ Fo 60 B w e.vf e.x.lf
theorem EvFs.one {B : Nat} {w : World} {e : Ev} (h : EvFs B w e) : ∀ u ∈ e.icells, u.oneCell' = true := by
  obtain ⟨a, c, h1, -⟩ := h.1.form
  obtain ⟨a', c', h2, -⟩ := h.2.form
  intro u hu
  rcases List.mem_cons.1 hu with rfl | hu
  · rfl
  · exact Ev.one e ⟨_, _, _, h1⟩ ⟨_, _, _, h2⟩ u hu
theorem icells_one {B : Nat} {w : World} {l : List Ev} (h : ∀ e ∈ l, EvFs B w e) : ∀ u ∈ icells l, u.oneCell' = true := by
  intro u hu
  obtain ⟨e, he, hu⟩ := List.mem_flatMap.1 hu
  exact (h e he).one u hu
theorem EvFs.below {B : Nat} {w w' : World} {e : Ev} (h : EvFs B w e) (hb : Below w.heap.size w w') (hB : B ≤ w.heap.size) : EvFs B w' e := ⟨h.1.below hb hB, h.2.below hb hB⟩
theorem EvFs.but_r {B r : Nat} {w w' : World} {e : Ev} {xs : Array Value} (h : EvFs B w e) (hr : Blk w r 70 xs) (hlo : B ≤ r) (hb : But (fun k => k = r) w w') : EvFs B w' e := ⟨h.1.but_r hr hlo hb (by decide), h.2.but_r hr hlo hb (by decide)⟩
/-- The items of a row, one by one. -/
theorem it_at {B : Nat} {w : World} {a : Option Addr} {n c : Nat} {er : List Ev} (h : Rd B w 8 (.slice a n c) n (icells er)) (k : Nat) (hk : k < er.length) :
    ∃ b off, a = some ⟨b, off, none⟩ ∧ b < B ∧ w.cell? ⟨b, off + k * 8, none⟩ = some (.int .i64 er[k].x.id) ∧ w.cell? ⟨b, off + k * 8 + 1, none⟩ = some (S er[k].x.key) ∧ w.cell? ⟨b, off + k * 8 + 2, none⟩ = some er[k].vp ∧ w.cell? ⟨b, off + k * 8 + 3, none⟩ = some (.int .i64 er[k].x.st) ∧ w.cell? ⟨b, off + k * 8 + 4, none⟩ = some er[k].vf ∧ w.cell? ⟨b, off + k * 8 + 5, none⟩ = some (S er[k].x.body) ∧ w.cell? ⟨b, off + k * 8 + 6, none⟩ = some (.int .i64 er[k].x.asked) ∧ w.cell? ⟨b, off + k * 8 + 7, none⟩ = some (.int .i64 er[k].x.came) := by
  obtain ⟨a', cap', h1, h2, h3, h4, h5, h6⟩ := h
  simp only [Value.slice.injEq, true_and] at h1
  obtain ⟨rfl, rfl⟩ := h1
  have hg : ∀ j, j < 8 → (icells er)[k * 8 + j]? = (er[k].icells)[j]? := fun j hj => flat_get Ev.icells 8 (fun _ => rfl) er k hk j hj
  obtain ⟨b, off, rfl, hb, c0⟩ := h6 (k * 8 + 0) _ (by rw [hg 0 (by omega)]; rfl)
  have hc : ∀ (j : Nat) (u : Value), j < 8 → (er[k].icells)[j]? = some u → w.cell? ⟨b, off + (k * 8 + j), none⟩ = some u := fun j u hj hu => by
    obtain ⟨b1, off1, e1, _, c1⟩ := h6 (k * 8 + j) u (by rw [hg j hj]; exact hu)
    simp only [Option.some.injEq, Addr.mk.injEq, and_true] at e1
    obtain ⟨rfl, rfl⟩ := e1
    exact c1
  refine ⟨b, off, rfl, hb, c0, ?_, ?_, ?_, ?_, ?_, ?_, ?_⟩
  · rw [Nat.add_assoc]; exact hc 1 _ (by omega) rfl
  · rw [Nat.add_assoc]; exact hc 2 _ (by omega) rfl
  · rw [Nat.add_assoc]; exact hc 3 _ (by omega) rfl
  · rw [Nat.add_assoc]; exact hc 4 _ (by omega) rfl
  · rw [Nat.add_assoc]; exact hc 5 _ (by omega) rfl
  · rw [Nat.add_assoc]; exact hc 6 _ (by omega) rfl
  · rw [Nat.add_assoc]; exact hc 7 _ (by omega) rfl
/-- The document's shelf: its block, its row, the lists of its entries (B: below it nothing turns). -/
structure Rs (B : Nat) (w : World) (r : Nat) (most last : Int) (v : Value) (er : List Ev) : Prop where
  blk : Blk w r 70 #[.int .i64 most, .int .i64 last, v]
  row : w.ownsRow B 105 8 v er.length (icells er)
  lists : ∀ e ∈ er, EvFs B w e
  lo : B ≤ r
  room : (costs (er.map Ev.x) : Int) ≤ most
  most1 : most ≤ 1048576
theorem Rs.below {B : Nat} {w w' : World} {r : Nat} {most last : Int} {v : Value} {er : List Ev} (h : Rs B w r most last v er) (hb : Below w.heap.size w w') : Rs B w' r most last v er :=
  ⟨h.blk.on hb, own_below h.row hb, fun e he => (h.lists e he).below hb (Nat.le_trans h.lo (Nat.le_of_lt h.blk.lt)), h.lo, h.room, h.most1⟩
theorem Rs.drew {B : Nat} {w : World} {r : Nat} {most last : Int} {v : Value} {er : List Ev} (h : Rs B w r most last v er) : Rs B w.drew r most last v er := h.below (Below.refl _ _).drew
theorem Rs.at {B : Nat} {w : World} {r : Nat} {most last : Int} {v : Value} {er : List Ev} (h : Rs B w r most last v er) : B < w.heap.size := Nat.lt_of_le_of_lt h.lo h.blk.lt
/-- What the shelf's own blocks turn leaves the document's shelf. -/
theorem Rs.but {B fb rb : Nat} {w w' : World} {r s R m : Nat} {most last most' last' : Int} {v : Value} {er : List Ev} {l : List Nd} (h : Rs B w r most last v er) (hs : Sh fb rb w s R m most' last' l) (hb : But (Foot s R m l) w w') (hB : ∀ k, Foot s R m l k → B ≤ k) : Rs B w' r most last v er :=
  ⟨h.blk.but hb (hs.off h.blk (by decide) (by decide)), own_block h.row fun g cur hg _ => hb.block g (Array.getElem?_eq_some_iff.1 hg).1 (hs.off hg (by decide) (by decide)), fun e he => ⟨(h.lists e he).1.but_s hs hB (Nat.le_of_lt h.at) hb (by decide) (by decide), (h.lists e he).2.but_s hs hB (Nat.le_of_lt h.at) hb (by decide) (by decide)⟩, h.lo, h.room, h.most1⟩
/-- What the document's block turns leaves the shelf. -/
theorem Sh.but_r {fb rb : Nat} {w w' : World} {r s R m : Nat} {most last : Int} {l : List Nd} {xs : Array Value} (h : Sh fb rb w s R m most last l) (hr : Blk w r 70 xs) (hb : But (fun k => k = r) w w') : Sh fb rb w' s R m most last l :=
  h.keep (fun k hk => hb.block k (h.foot_lt hk) (fun e => hs_off h hr (e ▸ hk))) fun n hn => (h.rows n hn).block fun g cur hg _ => hb.block g (by rcases hg with hg | hg <;> exact (Array.getElem?_eq_some_iff.1 hg).1) (fun e => by
    subst e
    have hr' : w.heap[g]? = some (.cells xs 70 (0, 0)) := hr
    rcases hg with hg | hg <;> (rw [hr'] at hg; simp at hg))
where
  hs_off {fb rb : Nat} {w : World} {r s R m : Nat} {most last : Int} {l : List Nd} {xs : Array Value} (h : Sh fb rb w s R m most last l) (hr : Blk w r 70 xs) : ¬ Foot s R m l r := h.off hr (by decide) (by decide)
theorem Rs.cost {B : Nat} {w : World} {r : Nat} {most last : Int} {v : Value} {er : List Ev} (h : Rs B w r most last v er) {e : Ev} (he : e ∈ er) : e.x.cost ≤ 1048576 := by
  have h1 := h.room
  have h2 := h.most1
  obtain ⟨a, b, rfl⟩ := List.append_of_mem he
  rw [List.map_append, List.map_cons, costs_append, costs_cons] at h1
  omega
theorem Rs.len {B : Nat} {w : World} {r : Nat} {most last : Int} {v : Value} {er : List Ev} (h : Rs B w r most last v er) : er.length ≤ 16384 := by
  have h1 := costs_len (er.map Ev.x)
  rw [List.length_map] at h1
  have := h.room
  have := h.most1
  omega
/-- Another row in the document's shelf. -/
theorem Rs.row_set {B : Nat} {w : World} {r : Nat} {most last : Int} {v v' : Value} {er er' : List Ev} (h : Rs B w r most last v er) (hrow : w.ownsRow B 105 8 v' er'.length (icells er')) (hl : ∀ e ∈ er', EvFs B w e) (hroom : (costs (er'.map Ev.x) : Int) ≤ most) : Rs B (w.setCell ⟨r, 2, none⟩ v') r most last v' er' :=
  ⟨by simpa using h.blk.set 2 v', own_block hrow fun g cur hg _ => Below.heap_setCell w ⟨r, 2, none⟩ v' g (fun e => by
    have hr : w.heap[r]? = some (.cells _ 70 (0, 0)) := h.blk
    rw [show g = r from e, hr] at hg
    simp at hg), fun e he => (hl e he).but_r h.blk h.lo ((But.refl (fun k => k = r) w).setCell (p := ⟨r, 2, none⟩) (.inl rfl) v'), h.lo, hroom, h.most1⟩
theorem Rs.last_set {B : Nat} {w : World} {r : Nat} {most last : Int} {v : Value} {er : List Ev} (h : Rs B w r most last v er) (z : Int) : Rs B (w.setCell ⟨r, 1, none⟩ (.int .i64 z)) r most z v er :=
  ⟨by simpa using h.blk.set 1 (.int .i64 z), own_block h.row fun g cur hg _ => Below.heap_setCell w ⟨r, 1, none⟩ _ g (fun e => by
    have hr : w.heap[r]? = some (.cells _ 70 (0, 0)) := h.blk
    rw [show g = r from e, hr] at hg
    simp at hg), fun e he => (h.lists e he).but_r h.blk h.lo ((But.refl (fun k => k = r) w).setCell (p := ⟨r, 1, none⟩) (.inl rfl) _), h.lo, h.room, h.most1⟩
/-- What stays when there is to be room: the document's items. -/
def roomE (k : Nat) : List Ev → List Ev
  | [] => []
  | e :: l => if costs ((e :: l).map Ev.x) ≤ k then e :: l else roomE k l
theorem roomE_fit {k : Nat} {l : List Ev} (h : costs (l.map Ev.x) ≤ k) : roomE k l = l := by
  cases l with
  | nil => rfl
  | cons e l => exact if_pos h
theorem roomE_less {k : Nat} {e : Ev} {l : List Ev} (h : ¬ costs ((e :: l).map Ev.x) ≤ k) : roomE k (e :: l) = roomE k l := if_neg h
theorem roomE_map (k : Nat) : ∀ (er : List Ev) (l : List Nd), er.map Ev.x = l.map Nd.x → (roomE k er).map Ev.x = (roomOf k l).map Nd.x
  | [], [], _ => rfl
  | [], _ :: _, h => by simp at h
  | _ :: _, [], h => by simp at h
  | e :: er, n :: l, h => by
    by_cases hc : costs ((n :: l).map Nd.x) ≤ k
    · rw [roomE_fit (by rw [h]; exact hc), roomOf_fit hc, h]
    · rw [roomE_less (by rw [h]; exact hc), roomOf_less hc]
      exact roomE_map k er l (by simpa using (List.cons.inj (by simpa using h)).2)
end Go.Proofs.YtahapblgmehngaaGreatDoor

