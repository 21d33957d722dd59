/- Parts of the proof of DealDecides_holds: the texts Rsp Shq7 Join VarS Var1 Var2. -/
import Derived.Test.YtahapblgmehngaaGreatDoorE18
set_option linter.unusedSimpArgs false
set_option linter.unusedVariables false
set_option linter.unnecessarySimpa false
set_option maxRecDepth 100000
set_option maxHeartbeats 64000000
namespace Go.Proofs.YtahapblgmehngaaGreatDoor
open Go.RowKit Go.Dr
def Ev.icells (v : Ev) : List Value := .int .i64 v.x.id :: v.cells
def icells (l : List Ev) : List Value := l.flatMap Ev.icells
theorem icells_append (a b : List Ev) : icells (a ++ b) = icells a ++ icells b := by simp [icells]
theorem icells_length (l : List Ev) : (icells l).length = l.length * 8 := flat_length Ev.icells 8 (fun _ => rfl) l
theorem icells_take (l : List Ev) (k : Nat) (h : k ≤ l.length) : (icells l).take (k * 8) = icells (l.take k) := by
 conv => lhs;rw [← List.take_append_drop k l, icells_append]
 rw [List.take_left' (by rw [icells_length, List.length_take, Nat.min_eq_left h])]
theorem icells_drop (l : List Ev) (k : Nat) (h : k ≤ l.length) : (icells l).drop (k * 8) = icells (l.drop k) := by
 conv => lhs;rw [← List.take_append_drop k l, icells_append]
 rw [List.drop_left' (by rw [icells_length, List.length_take, Nat.min_eq_left h])]
def Fo (t : TypeId) (B : Nat) (w : World) (v : Value) (l : List F) : Prop := Fs B w v l ∨ w.ownsRow 0 t 3 v l.length (fcells l)
theorem Fo.fs {t : TypeId} {B : Nat} {w : World} {v : Value} {l : List F} (h : Fo t B w v l) (hB : B ≤ w.heap.size) : Fs w.heap.size w v l := h.elim (fun h => h.mono hB) Fs.own
theorem Fo.form {t : TypeId} {B : Nat} {w : World} {v : Value} {l : List F} (h : Fo t B w v l) : ∃ a cap, v = .slice a l.length cap ∧ l.length ≤ 9223372036854775807 := h.elim (fun h => Fs.form h) fun h => Fs.form (Fs.own h)
theorem Fo.below {t : TypeId} {B : Nat} {w w' : World} {v : Value} {l : List F} (h : Fo t B w v l) (hb : Below w.heap.size w w') (hB : B ≤ w.heap.size) : Fo t B w' v l := h.imp (fun h => h.below (hb.mono hB)) fun h => own_below h hb
theorem Fo.drew {t : TypeId} {B : Nat} {w : World} {v : Value} {l : List F} (h : Fo t B w v l) : Fo t B w.drew v l := h.imp (fun h => Rd.below h (Below.refl _ _).drew) fun h => own_block h fun _ _ _ _ => rfl
theorem Fo.but {t : TypeId} {B : Nat} {w w' : World} {v : Value} {l : List F} {T : Nat → Prop} (h : Fo t B w v l) (hb : But T w w') (hT : ∀ k, T k → B ≤ k) (hB : B ≤ w.heap.size) (ht : ∀ g cur, w.heap[g]? = some (.cells cur t (0, 0)) → ¬ T g) : Fo t B w' v l :=
 h.imp (fun h => h.below (hb.below hT hB)) fun h => own_block h fun g cur hg _ => hb.block g (Array.getElem?_eq_some_iff.1 hg).1 (ht g cur hg)
theorem Fo.but_r {t : TypeId} {B r : Nat} {w w' : World} {v : Value} {l : List F} {xs : Array Value} (h : Fo t B w v l) (hr : Blk w r 70 xs) (hlo : B ≤ r) (hb : But (fun k => k = r) w w') (ht : t ≠ 70) : Fo t B w' v l :=
 h.but hb (fun k hk => by rw [hk];exact hlo) (Nat.le_trans hlo (Nat.le_of_lt hr.lt)) fun g cur hg e => by
  have hr' : w.heap[r]? = some (.cells xs 70 (0, 0)) := hr
  rw [show g = r from e, hr'] at hg;simp only [Option.some.injEq, Obj.cells.injEq] at hg;exact ht hg.2.1.symm
theorem Fo.but_s {t : TypeId} {B fb rb s R m : Nat} {most last : Int} {w w' : World} {v : Value} {l : List F} {nl : List Nd} (h : Fo t B w v l) (hs : Sh fb rb w s R m most last nl) (hlo : ∀ k, Foot s R m nl k → B ≤ k) (hB : B ≤ w.heap.size) (hb : But (Foot s R m nl) w w') (h1 : t ≠ 100) (h2 : t ≠ 97) : Fo t B w' v l :=
 h.but hb hlo hB fun g cur hg => hs.off hg h1 h2
def EvFs (B : Nat) (w : World) (e : Ev) : Prop := Fo 89 B w e.vp e.x.lp ∧ Fo 60 B w e.vf e.x.lf
theorem EvFs.one {B : Nat} {w : World} {e : Ev} (h : EvFs B w e) : ∀ u ∈ e.icells, u.oneCell' = true := by
 obtain ⟨a, c, h1, -⟩ := h.1.form;obtain ⟨a', c', h2, -⟩ := h.2.form;intro u hu
 rcases List.mem_cons.1 hu with rfl | hu
 ·rfl
 ·exact Ev.one e ⟨_, _, _, h1⟩ ⟨_, _, _, h2⟩ u hu
theorem icells_one {B : Nat} {w : World} {l : List Ev} (h : ∀ e ∈ l, EvFs B w e) : ∀ u ∈ icells l, u.oneCell' = true := by
 intro u hu;obtain ⟨e, he, hu⟩ := List.mem_flatMap.1 hu;exact (h e he).one u hu
theorem EvFs.below {B : Nat} {w w' : World} {e : Ev} (h : EvFs B w e) (hb : Below w.heap.size w w') (hB : B ≤ w.heap.size) : EvFs B w' e := ⟨h.1.below hb hB, h.2.below hb hB⟩
theorem EvFs.but_r {B r : Nat} {w w' : World} {e : Ev} {xs : Array Value} (h : EvFs B w e) (hr : Blk w r 70 xs) (hlo : B ≤ r) (hb : But (fun k => k = r) w w') : EvFs B w' e := ⟨h.1.but_r hr hlo hb (by decide), h.2.but_r hr hlo hb (by decide)⟩
theorem it_at {B : Nat} {w : World} {a : Option Addr} {n c : Nat} {er : List Ev} (h : Rd B w 8 (.slice a n c) n (icells er)) (k : Nat) (hk : k < er.length) :
  ∃ b off, a = some ⟨b, off, none⟩ ∧ b < B ∧ w.cell? ⟨b, off + k * 8, none⟩ = some (.int .i64 er[k].x.id) ∧ w.cell? ⟨b, off + k * 8 + 1, none⟩ = some (S er[k].x.key) ∧ w.cell? ⟨b, off + k * 8 + 2, none⟩ = some er[k].vp ∧ w.cell? ⟨b, off + k * 8 + 3, none⟩ = some (.int .i64 er[k].x.st) ∧ w.cell? ⟨b, off + k * 8 + 4, none⟩ = some er[k].vf ∧ w.cell? ⟨b, off + k * 8 + 5, none⟩ = some (S er[k].x.body) ∧ w.cell? ⟨b, off + k * 8 + 6, none⟩ = some (.int .i64 er[k].x.asked) ∧ w.cell? ⟨b, off + k * 8 + 7, none⟩ = some (.int .i64 er[k].x.came) := by
 obtain ⟨a', cap', h1, h2, h3, h4, h5, h6⟩ := h;simp only [Value.slice.injEq, true_and] at h1;obtain ⟨rfl, rfl⟩ := h1;have hg : ∀ j, j < 8 → (icells er)[k * 8 + j]? = (er[k].icells)[j]? := fun j hj => flat_get Ev.icells 8 (fun _ => rfl) er k hk j hj
 obtain ⟨b, off, rfl, hb, c0⟩ := h6 (k * 8 + 0) _ (by rw [hg 0 (by omega)];rfl)
 have hc : ∀ (j : Nat) (u : Value), j < 8 → (er[k].icells)[j]? = some u → w.cell? ⟨b, off + (k * 8 + j), none⟩ = some u := fun j u hj hu => by
  obtain ⟨b1, off1, e1, _, c1⟩ := h6 (k * 8 + j) u (by rw [hg j hj];exact hu);simp only [Option.some.injEq, Addr.mk.injEq, and_true] at e1;obtain ⟨rfl, rfl⟩ := e1;exact c1
 refine ⟨b, off, rfl, hb, c0, ?_, ?_, ?_, ?_, ?_, ?_, ?_⟩
 ·rw [Nat.add_assoc];exact hc 1 _ (by omega) rfl
 ·rw [Nat.add_assoc];exact hc 2 _ (by omega) rfl
 ·rw [Nat.add_assoc];exact hc 3 _ (by omega) rfl
 ·rw [Nat.add_assoc];exact hc 4 _ (by omega) rfl
 ·rw [Nat.add_assoc];exact hc 5 _ (by omega) rfl
 ·rw [Nat.add_assoc];exact hc 6 _ (by omega) rfl
 ·rw [Nat.add_assoc];exact hc 7 _ (by omega) rfl
structure Rs (B : Nat) (w : World) (r : Nat) (most last : Int) (v : Value) (er : List Ev) : Prop where
 blk : Blk w r 70 #[.int .i64 most, .int .i64 last, v]
 row : w.ownsRow B 105 8 v er.length (icells er)
 lists : ∀ e ∈ er, EvFs B w e
 lo : B ≤ r
 room : (costs (er.map Ev.x) : Int) ≤ most
 most1 : most ≤ 1048576
theorem Rs.below {B : Nat} {w w' : World} {r : Nat} {most last : Int} {v : Value} {er : List Ev} (h : Rs B w r most last v er) (hb : Below w.heap.size w w') : Rs B w' r most last v er :=
 ⟨h.blk.on hb, own_below h.row hb, fun e he => (h.lists e he).below hb (Nat.le_trans h.lo (Nat.le_of_lt h.blk.lt)), h.lo, h.room, h.most1⟩
theorem Rs.drew {B : Nat} {w : World} {r : Nat} {most last : Int} {v : Value} {er : List Ev} (h : Rs B w r most last v er) : Rs B w.drew r most last v er := h.below (Below.refl _ _).drew
theorem Rs.at {B : Nat} {w : World} {r : Nat} {most last : Int} {v : Value} {er : List Ev} (h : Rs B w r most last v er) : B < w.heap.size := Nat.lt_of_le_of_lt h.lo h.blk.lt
theorem Rs.but {B fb rb : Nat} {w w' : World} {r s R m : Nat} {most last most' last' : Int} {v : Value} {er : List Ev} {l : List Nd} (h : Rs B w r most last v er) (hs : Sh fb rb w s R m most' last' l) (hb : But (Foot s R m l) w w') (hB : ∀ k, Foot s R m l k → B ≤ k) : Rs B w' r most last v er :=
 ⟨h.blk.but hb (hs.off h.blk (by decide) (by decide)), own_block h.row fun g cur hg _ => hb.block g (Array.getElem?_eq_some_iff.1 hg).1 (hs.off hg (by decide) (by decide)), fun e he => ⟨(h.lists e he).1.but_s hs hB (Nat.le_of_lt h.at) hb (by decide) (by decide), (h.lists e he).2.but_s hs hB (Nat.le_of_lt h.at) hb (by decide) (by decide)⟩, h.lo, h.room, h.most1⟩
theorem Sh.but_r {fb rb : Nat} {w w' : World} {r s R m : Nat} {most last : Int} {l : List Nd} {xs : Array Value} (h : Sh fb rb w s R m most last l) (hr : Blk w r 70 xs) (hb : But (fun k => k = r) w w') : Sh fb rb w' s R m most last l :=
 h.keep (fun k hk => hb.block k (h.foot_lt hk) (fun e => hs_off h hr (e ▸ hk))) fun n hn => (h.rows n hn).block fun g cur hg _ => hb.block g (by rcases hg with hg | hg <;> exact (Array.getElem?_eq_some_iff.1 hg).1) (fun e => by
  subst e;have hr' : w.heap[g]? = some (.cells xs 70 (0, 0)) := hr
  rcases hg with hg | hg <;> (rw [hr'] at hg;simp at hg))
where
 hs_off {fb rb : Nat} {w : World} {r s R m : Nat} {most last : Int} {l : List Nd} {xs : Array Value} (h : Sh fb rb w s R m most last l) (hr : Blk w r 70 xs) : ¬ Foot s R m l r := h.off hr (by decide) (by decide)
theorem Rs.cost {B : Nat} {w : World} {r : Nat} {most last : Int} {v : Value} {er : List Ev} (h : Rs B w r most last v er) {e : Ev} (he : e ∈ er) : e.x.cost ≤ 1048576 := by
 have h1 := h.room;have h2 := h.most1;obtain ⟨a, b, rfl⟩ := List.append_of_mem he;rw [List.map_append, List.map_cons, costs_append, costs_cons] at h1;omega
theorem Rs.len {B : Nat} {w : World} {r : Nat} {most last : Int} {v : Value} {er : List Ev} (h : Rs B w r most last v er) : er.length ≤ 16384 := by
 have h1 := costs_len (er.map Ev.x);rw [List.length_map] at h1;have := h.room
 have := h.most1
 omega
theorem Rs.row_set {B : Nat} {w : World} {r : Nat} {most last : Int} {v v' : Value} {er er' : List Ev} (h : Rs B w r most last v er) (hrow : w.ownsRow B 105 8 v' er'.length (icells er')) (hl : ∀ e ∈ er', EvFs B w e) (hroom : (costs (er'.map Ev.x) : Int) ≤ most) : Rs B (w.setCell ⟨r, 2, none⟩ v') r most last v' er' :=
 ⟨by simpa using h.blk.set 2 v', own_block hrow fun g cur hg _ => Below.heap_setCell w ⟨r, 2, none⟩ v' g (fun e => by
  have hr : w.heap[r]? = some (.cells _ 70 (0, 0)) := h.blk;rw [show g = r from e, hr] at hg
  simp at hg), fun e he => (hl e he).but_r h.blk h.lo ((But.refl (fun k => k = r) w).setCell (p := ⟨r, 2, none⟩) (.inl rfl) v'), h.lo, hroom, h.most1⟩
theorem Rs.last_set {B : Nat} {w : World} {r : Nat} {most last : Int} {v : Value} {er : List Ev} (h : Rs B w r most last v er) (z : Int) : Rs B (w.setCell ⟨r, 1, none⟩ (.int .i64 z)) r most z v er :=
 ⟨by simpa using h.blk.set 1 (.int .i64 z), own_block h.row fun g cur hg _ => Below.heap_setCell w ⟨r, 1, none⟩ _ g (fun e => by
  have hr : w.heap[r]? = some (.cells _ 70 (0, 0)) := h.blk;rw [show g = r from e, hr] at hg
  simp at hg), fun e he => (h.lists e he).but_r h.blk h.lo ((But.refl (fun k => k = r) w).setCell (p := ⟨r, 1, none⟩) (.inl rfl) _), h.lo, h.room, h.most1⟩
def roomE (k : Nat) : List Ev → List Ev
 | [] => []
 | e :: l => if costs ((e :: l).map Ev.x) ≤ k then e :: l else roomE k l
theorem roomE_fit {k : Nat} {l : List Ev} (h : costs (l.map Ev.x) ≤ k) : roomE k l = l := by
 cases l with
 | nil => rfl
 | cons e l => exact if_pos h
theorem roomE_less {k : Nat} {e : Ev} {l : List Ev} (h : ¬ costs ((e :: l).map Ev.x) ≤ k) : roomE k (e :: l) = roomE k l := if_neg h
theorem roomE_map (k : Nat) : ∀ (er : List Ev) (l : List Nd), er.map Ev.x = l.map Nd.x → (roomE k er).map Ev.x = (roomOf k l).map Nd.x
  | [], [], _ => rfl
  | [], _ :: _, h => by simp at h
  | _ :: _, [], h => by simp at h
  | e :: er, n :: l, h => by
    by_cases hc : costs ((n :: l).map Nd.x) ≤ k
    · rw [roomE_fit (by rw [h];exact hc), roomOf_fit hc, h]
    · rw [roomE_less (by rw [h];exact hc), roomOf_less hc]
      exact roomE_map k er l (by simpa using (List.cons.inj (by simpa using h)).2)
open Go.RowKit Go.Dr
theorem touch_any (fb rb s R m : Nat) (most last : Int) (a b : List Nd) (n : Nd) (w : World) (h : Sh fb rb w s R m most last (a ++ n :: b)) :
  ∃ w1 w2, (Calls Tryz.prog 64 #[Ptr n.b] w fun e w' => e = .returned (.tuple #[]) ∧ w' = w1) ∧ (Calls Tryz.prog 65 #[Ptr s, Ptr n.b] w1 fun e w' => e = .returned (.tuple #[]) ∧ w' = w2) ∧ Sh fb rb w2 s R m most last (a ++ b ++ [n]) ∧ But (Foot s R m (a ++ n :: b)) w w2 := by
 have hne := h.ne_s;have hat := h.at;obtain ⟨p, ep⟩ : ∃ p, p = lastOr (a.map Nd.n) R := ⟨_, rfl⟩;obtain ⟨q, eq⟩ : ∃ q, q = headOr (b.map Nd.n) R := ⟨_, rfl⟩;have hmem : ∀ n' ∈ a ++ b, n' ∈ a ++ n :: b := fun n' hn' => mem_more hn'
 have hpm : p = R ∨ ∃ n' ∈ a ++ b, n'.b = p := by
  rcases last_of a R with e | ⟨n', hn, e⟩
  ·exact .inl (ep.trans e)
  ·exact .inr ⟨n', by simp [hn], e.trans ep.symm⟩
 have hqm : q = R ∨ ∃ n' ∈ a ++ b, n'.b = q := by
  rcases head_of b R with e | ⟨n', hn, e⟩
  ·exact .inl (eq.trans e)
  ·exact .inr ⟨n', by simp [hn], e.trans eq.symm⟩
 have hnd := h.ring.nodup;rw [nd_blocks, List.map_append, List.map_cons] at hnd
 have hnn : n.b ∉ R :: (a ++ b).map Nd.b := by
  rw [List.map_append];simp only [List.nodup_cons, List.nodup_append, List.mem_append, List.mem_cons] at hnd ⊢
  grind
 have hnb : ∀ k, (k = R ∨ ∃ n' ∈ a ++ b, n'.b = k) → k ≠ n.b := by
  rintro k (e | ⟨n', hn', e⟩) e1
  ·exact hnn (by rw [← e1, e];simp)
  ·exact hnn (by rw [← e1, ← e];exact List.mem_cons_of_mem _ (List.mem_map_of_mem hn'))
 have hsk : ∀ k, (k = R ∨ ∃ n' ∈ a ++ b, n'.b = k) → s ≠ k := by
  rintro k (e | ⟨n', hn', e⟩)
  ·rw [e];exact hne.1
  ·rw [← e];exact fun e => (hne.2.2.2 n' (hmem n' hn')).1 e.symm
 have hmk : ∀ k, (k = R ∨ ∃ n' ∈ a ++ b, n'.b = k) → m ≠ k := by
  rintro k (e | ⟨n', hn', e⟩)
  ·rw [e];exact hne.2.2.1
  ·rw [← e];exact fun e => (hne.2.2.2 n' (hmem n' hn')).2.1 e.symm
 have hfk : ∀ k, (k = R ∨ ∃ n' ∈ a ++ b, n'.b = k) → Foot s R m (a ++ n :: b) k := by
  rintro k (e | ⟨n', hn', e⟩)
  ·exact .inr (.inr (.inl e))
  ·exact .inr (.inr (.inr (e ▸ List.mem_map_of_mem (hmem n' hn'))))
 have hin : ∀ {k}, (k = R ∨ ∃ n' ∈ a ++ b, n'.b = k) → (k = R ∨ ∃ n' ∈ a ++ n :: b, n'.b = k) := by
  rintro k (e | ⟨n', hn', e⟩)
  ·exact .inl e
  ·exact .inr ⟨n', hmem n' hn', e⟩
 obtain ⟨kp, p1, p2, hpb⟩ := ring_cell h (hin hpm);obtain ⟨kq, q1, q2, hqb⟩ := ring_cell h (hin hqm);have hout := h.ring;rw [List.map_append, List.map_cons] at hout;have hout := hout.out;rw [← ep, ← eq] at hat;rw [← ep, ← eq, ← List.map_append] at hout;have hC := out_any n.b p q (Ptr p2) (Ptr q1) w (hat.cell 9) (hat.cell 10) (hnb p hpm) (hnb q hqm) (hpb.cell 10) (hpb.free 10) (hqb.cell 9) (hqb.free 9);obtain ⟨w1, ew⟩ : ∃ w1 : World, w1 = ((w.setCell ⟨p, 10, none⟩ (Ptr q)).setCell ⟨q, 9, none⟩ (Ptr p)).drew := ⟨_, rfl⟩;rw [← ew] at hC;have hr1 : Ring w1 97 R ((a ++ b).map Nd.n) := (by rw [ew];exact hout.block fun _ _ => rfl);have hs1 : Blk w1 s 100 #[.int .i64 most, .int .i64 (costs ((a ++ n :: b).map Nd.x) : Nat), .int .i64 last, Ptr R, .map (some m)] := (by rw [ew];exact ((h.blk.other (p := ⟨p, 10, none⟩) (hsk p hpm) _).other (p := ⟨q, 9, none⟩) (hsk q hqm) _).drew);have hn1 : Blk w1 n.b 97 (n.k.cells p q) := (by rw [ew];exact ((hat.other (p := ⟨p, 10, none⟩) (fun e => hnb p hpm e.symm) _).other (p := ⟨q, 9, none⟩) (fun e => hnb q hqm e.symm) _).drew)
 have hk1 : ∀ k, k ≠ p → k ≠ q → w1.heap[k]? = w.heap[k]? := fun k h1 h2 => by
  rw [ew];exact (Below.heap_setCell _ ⟨q, 9, none⟩ _ k h2).trans (Below.heap_setCell _ ⟨p, 10, none⟩ _ k h1)
 have hb1 : But (Foot s R m (a ++ n :: b)) w w1 := (by rw [ew];exact (((But.refl _ w).setCell (p := ⟨p, 10, none⟩) (.inl (hfk p hpm)) _).setCell (p := ⟨q, 9, none⟩) (.inl (hfk q hqm)) _).drew);obtain ⟨z, ez⟩ : ∃ z, z = lastOr ((a ++ b).map Nd.n) R := ⟨_, rfl⟩
 have hzm : z = R ∨ ∃ n' ∈ a ++ b, n'.b = z := by
  rcases last_of (a ++ b) R with e | ⟨n', hn, e⟩
  ·exact .inl (ez.trans e)
  ·exact .inr ⟨n', hn, e.trans ez.symm⟩
 have hzb : ∃ k z1 z2, Blk w1 z 97 (K.cells k z1 z2) := by
  rcases hzm with e | ⟨n', hn', e⟩
  ·rw [e];exact ⟨_, _, _, hr1.root⟩
  ·obtain ⟨c, d, ecd⟩ := List.append_of_mem hn'
   rw [ecd, List.map_append, List.map_cons] at hr1;rw [← e];exact ⟨_, _, _, hr1.at⟩
 obtain ⟨kz, z1, z2, hzb⟩ := hzb;have hroot := hr1.root;rw [← ez] at hroot;have hU := used_any s n.b R z (Ptr p) (Ptr q) (Ptr z2) (.int .i64 0) w1 (hs1.cell 3) (hroot.cell 9) (hroot.free 9) (hn1.cell 9) (hn1.free 9) (hn1.cell 10) (hn1.free 10) (hzb.cell 10) (hzb.free 10) (fun e => (hne.2.2.2 n (by simp)).1 e.symm) (hnb R (.inl rfl)) (hnb z hzm) (hsk z hzm) hne.1
 have hr2 := hr1.used (n := n.n) _ hn1 (fun p' q' => by
  show ((K.cells n.k p q).setIfInBounds 9 (Ptr p')).setIfInBounds 10 (Ptr q') = K.cells n.k p' q'
  rw [K.set9, K.set10]) (by show n.b ∉ _;rw [nd_blocks];exact hnn)
 rw [← ez] at hr2;have hn1' : n.n.1 = n.b := rfl
 rw [hn1'] at hr2;obtain ⟨w2, ew2⟩ : ∃ w2 : World, w2 = ((((w1.setCell ⟨n.b, 9, none⟩ (Ptr z)).setCell ⟨n.b, 10, none⟩ (Ptr R)).setCell ⟨z, 10, none⟩ (Ptr n.b)).setCell ⟨R, 9, none⟩ (Ptr n.b)).drew := ⟨_, rfl⟩;rw [← ew2] at hU
 have hk2 : ∀ k, k ≠ n.b → k ≠ z → k ≠ R → w2.heap[k]? = w1.heap[k]? := fun k h1 h2 h3 => by
  rw [ew2];exact (Below.heap_setCell _ ⟨R, 9, none⟩ _ k h3).trans ((Below.heap_setCell _ ⟨z, 10, none⟩ _ k h2).trans ((Below.heap_setCell _ ⟨n.b, 10, none⟩ _ k h1).trans (Below.heap_setCell _ ⟨n.b, 9, none⟩ _ k h1)))
 have hfn : Foot s R m (a ++ n :: b) n.b := .inr (.inr (.inr (List.mem_map_of_mem (by simp))))
 have hb2 : But (Foot s R m (a ++ n :: b)) w w2 := by
  rw [ew2];exact ((((hb1.setCell (p := ⟨n.b, 9, none⟩) (.inl hfn) _).setCell (p := ⟨n.b, 10, none⟩) (.inl hfn) _).setCell (p := ⟨z, 10, none⟩) (.inl (hfk z hzm)) _).setCell (p := ⟨R, 9, none⟩) (.inl (.inr (.inr (.inl rfl)))) _).drew
 have hperm : (a ++ n :: b).Perm (a ++ b ++ [n]) := by
  rw [List.append_assoc];exact List.Perm.append_left a (List.perm_append_singleton n b).symm
 refine ⟨w1, w2, hC, hU, ?_, hb2⟩
 have hcost : costs ((a ++ b ++ [n]).map Nd.x) = costs ((a ++ n :: b).map Nd.x) := by
  unfold costs;exact ((hperm.map Nd.x).map It.cost).symm.sum_nat
 refine ⟨?_, ?_, ?_, ?_, ?_, ?_, h.most1⟩
 ·rw [hcost]
  exact hs1.block (hk2 s (fun e => (hne.2.2.2 n (by simp)).1 e.symm) (hsk z hzm) hne.1)
 ·rw [List.map_append]
  rw [ew2];exact hr2.block fun _ _ => rfl
 ·refine (h.map.block ?_).perm (hperm.map _)
  exact (hk2 m (fun e => (hne.2.2.2 n (by simp)).2.1 e.symm) (hmk z hzm) hne.2.2.1).trans (hk1 m (hmk p hpm) (hmk q hqm))
 ·exact fun n' hn' => (h.rows n' (hperm.mem_iff.2 hn')).block fun g cur hg _ => hb2.block g (by rcases hg with hg | hg <;> exact (Array.getElem?_eq_some_iff.1 hg).1) (by
   rcases hg with hg | hg
   ·exact h.off hg (by decide) (by decide)
   ·exact h.off hg (by decide) (by decide))
 ·exact fun k hk => h.base k (foot_more (fun n' hn' => hperm.mem_iff.2 hn') hk)
 ·rw [hcost];exact h.room
open Go.RowKit Go.Dr
def joinS (v : List Bytes) : Bytes := Lib.join v [44, 32]
theorem joinS_nil : joinS [] = [] := rfl
theorem lens_ssum (r : List Bytes) : Lib.lens r + r.length = ssum r := by
 induction r with
 | nil => rfl
 | cons y r ih => simp only [Lib.lens, List.map_cons, List.sum_cons, List.length_cons, ssum] at *;omega
theorem joinS_length (vs : List Bytes) : (joinS vs).length ≤ 2 * ssum vs := by
 cases vs with
 | nil => simp [joinS_nil]
 | cons x r =>
  have := Lib.join_length x r [44, 32]
  have h2 := lens_ssum (x :: r);simp only [joinS, List.length_cons, List.length_nil] at *;omega
theorem Joins_any (vs : List Bytes) (v : Value) (w : World) (h : Ss w.heap.size w v vs) (hl : ssum vs ≤ 1099511627776) :
  Calls Tryz.prog 96 #[v, S [44, 32]] w fun e w' => e = .returned (S (joinS vs)) ∧ Below w.heap.size w w' := by
 have hbnd := joinS_length vs;obtain ⟨a, cap, rfl, h2, h3, h4, h5, h6⟩ := h
 cases vs with
 | nil =>
  refine (Tryz.strings_Join_none a cap ⟨#[44, 32]⟩ w).mono ?_;rintro e w' ⟨rfl, rfl⟩;exact ⟨rfl, Below.refl _ _⟩
 | cons x r =>
  obtain ⟨b, off, rfl, hb, _⟩ := h6 0 (S x) rfl
  have hmap : ((x :: r).map fun l => (⟨l.toArray⟩ : ByteArray)).map (·.data.toList) = x :: r := by
   rw [List.map_map]
   conv => rhs;rw [← List.map_id (x :: r)]
   rfl
  have hlen := ssum_length (x :: r)
  have hc := Tryz.strings_Join b off cap ((x :: r).map fun l => ⟨l.toArray⟩) ⟨#[44, 32]⟩ w (fun j y hy => by
   rw [List.getElem?_map] at hy
   cases hj : (x :: r)[j]? with
   | none => rw [hj] at hy;cases hy
   | some z =>
    rw [hj] at hy;obtain rfl := Option.some.inj hy;obtain ⟨b', off', e1, _, e3⟩ := h6 j (S z) (by rw [List.getElem?_map, hj];rfl);simp only [Option.some.injEq, Addr.mk.injEq, and_true] at e1;obtain ⟨rfl, rfl⟩ := e1
    exact e3) hb (by rw [List.length_map];omega) (by rw [List.length_map];exact h2)
   (by rw [hmap];show (joinS (x :: r)).length ≤ _;omega)
  rw [hmap, List.length_map] at hc;exact hc
theorem joinS_take (vs : List Bytes) (k : Nat) (h : k < vs.length) : joinS (vs.take (k + 1)) = joinS (vs.take k) ++ (if 0 < k then [44, 32] else []) ++ vs[k] := by
 cases vs with
 | nil => simp at h
 | cons x r =>
  cases k with
  | zero => simp [joinS, Lib.join_one, Lib.join_nil]
  | succ k =>
   have hk : k < r.length := (by simpa using h);have := Lib.joinTail_take_succ [44, 32] r k r[k] (List.getElem?_eq_getElem hk)
   simp only [joinS, List.take_succ_cons, Lib.join_cons, List.getElem_cons_succ, Nat.zero_lt_succ, if_true];rw [this];simp
open Go.RowKit Go.Dr
theorem PSame_any (a b : List F) (va vb : Value) (w : World) (ha : Fs w.heap.size w va a) (hb : Fs w.heap.size w vb b) :
  Calls Tryz.prog 17 #[va, vb] w fun e w' => e = .returned (.bool (a == b)) ∧ Below w.heap.size w w' := by
 obtain ⟨pa, ca, rfl, hma⟩ := ha.form;obtain ⟨pb, cb, rfl, hmb⟩ := hb.form;by_cases hlen : a.length = b.length
 ·have h1 : ((a.length : Int) == (b.length : Int)) = true := by simp [hlen]
  have h2 : ((a.length : Int) != (b.length : Int)) = false := (by simp [hlen]);have HL := Lib.hid hlen;clear hlen;go_enter Tryz.func17, Tryz.ntmps17
  go_wp2
  go_loopw [5] (fun i wr => ∃ k : Nat, k ≤ a.length ∧ i = .int .i64 k ∧ Hid (a.take k = b.take k) ∧ Below w.heap.size w wr) (fun i _ => a.length - (intOf i).toNat)
  case atStart => exact ⟨0, Nat.zero_le _, rfl, rfl, Below.refl _ _⟩
  case round =>
   obtain ⟨k, hk, rfl, HT, hbel⟩ := hrel;by_cases hlt : k < a.length
   ·have hlt' : k < b.length := by rw [← HL.out];exact hlt
    obtain ⟨ba, oa, rfl, hba, hca0, hca1, hca2⟩ := (ha.below hbel).at k hlt;obtain ⟨bb, ob, rfl, hbb, hcb0, hcb1, hcb2⟩ := (hb.below hbel).at k hlt';have HE := Lib.hid (f_eq a[k] b[k]);by_cases e1 : a[k].n = b[k].n
    ·by_cases e2 : a[k].v = b[k].v
     ·by_cases e3 : a[k].m = b[k].m
      ·have he : a[k] = b[k] := by rw [← beq_iff_eq, HE.out];simp [e1, e2, e3]
       have HN := Lib.hid (take_eq_succ hlt hlt' HT.out he);clear he;go_wp2_with fail;go_quiet (fail)
       go_wp2
       go_roundw
       case rel => exact ⟨k + 1, by omega, by go_num, HN, below_drewN hbel _⟩
       case measure => simp [intOf];omega
      ·have HN := Lib.hid (ne_of_get hlt hlt' (fun h => e3 (by rw [h])))
       go_wp2_with fail;go_quiet (fail)
       go_wp2;go_ret;exact ⟨ret_bool (by symm;rw [beq_eq_false_iff_ne];exact HN.out), below_drewN hbel _⟩
     ·have HN := Lib.hid (ne_of_get hlt hlt' (fun h => e2 (by rw [h])))
      go_wp2_with fail;go_quiet (fail)
      go_wp2;go_ret;exact ⟨ret_bool (by symm;rw [beq_eq_false_iff_ne];exact HN.out), below_drewN hbel _⟩
    ·have HN := Lib.hid (ne_of_get hlt hlt' (fun h => e1 (by rw [h])))
     go_wp2_with fail;go_quiet (fail)
     go_wp2;go_ret;exact ⟨ret_bool (by symm;rw [beq_eq_false_iff_ne];exact HN.out), below_drewN hbel _⟩
   ·go_wp2
    go_ret;exact ⟨ret_bool (by symm;rw [beq_iff_eq];have := HT.out;rwa [List.take_of_length_le (by omega), List.take_of_length_le (by rw [← HL.out];omega)] at this), hbel⟩
 ·have h1 : ((a.length : Int) == (b.length : Int)) = false := by simp;omega
  have h2 : ((a.length : Int) != (b.length : Int)) = true := (by simp;omega);go_enter Tryz.func17, Tryz.ntmps17
  go_wp2;go_ret;exact ⟨ret_bool (by symm;rw [beq_eq_false_iff_ne];intro e;exact hlen (by rw [e])), Below.refl _ _⟩
open Go.RowKit Go.Dr
def saysF (name : Bytes) (l : List F) : F := ⟨low name, joinS (allOf l name), decide (0 < (values l name).length)⟩
abbrev fval (f : F) : Value := .agg #[S f.n, S f.v, .bool f.m]
abbrev fcl (f : F) : Array Value := #[S f.n, S f.v, .bool f.m]
theorem refSays_any (name : Bytes) (l : List F) (v : Value) (w : World) (h : Fs w.heap.size w v l) (hl : fsum l ≤ 1099511627776) (hn : name.length ≤ 1099511627776) :
  Calls Tryz.prog 47 #[S name, v] w fun e w' => e = .returned (fval (saysF name l)) ∧ Below w.heap.size w w' := by
 have HS := ssum_all l name;have HY : Hid (saysF name l = ⟨low name, joinS (allOf l name), decide (0 < (values l name).length)⟩) := rfl;go_enter Tryz.func47, Tryz.ntmps47
 go_wp2_with fail;have hZ := Blk.new w 89 (fcl ⟨[], [], false⟩);have hal : Below w.heap.size w (w.alloc (.cells (fcl ⟨[], [], false⟩) 89)) := (Below.refl _ _).alloc (Nat.le_refl _) _;refine (refAll_any l name v _ ((h.below hal).mono hal.size) hl hn).mono ?_;rintro e w1 ⟨vv, rfl, hvv, hb1⟩;have hw1 := Bl.tr hal hb1;have hZ1 := hZ.on hb1;have hl1 := (h.below hw1).mono hw1.size;have hr : Ss w1.heap.size w1 vv (allOf l name) := Ss.own hvv;clear hZ hal hb1 h hvv
 (generalize hgenvs : allOf l name = vs at *;have Hvs := Lib.hid hgenvs;clear hgenvs)
 obtain ⟨pa, ca, rfl, hm⟩ := hr.form;go_wp2
 go_loopw [6, 7] (fun vs' i wr => ∃ k : Nat, i = .int .i64 k ∧ k ≤ vs.length ∧ vs' = S (joinS (vs.take k)) ∧ (joinS (vs.take k)).length ≤ 4398046511104 ∧ wr = w1) (fun _ i _ => vs.length - (intOf i).toNat)
 case atStart => exact ⟨0, rfl, Nat.zero_le _, rfl, Nat.zero_le _, rfl⟩
 case round =>
  obtain ⟨k, rfl, hk, rfl, hjl, hwe⟩ := hrel;obtain rfl : w1 = wr := hwe.symm;by_cases hlt : k < vs.length
  ·obtain ⟨b, off, rfl, hbb, c0⟩ := hr.at k hlt
   have hf := ssum_mem (List.getElem_mem hlt);have HJ := Lib.hid (joinS_take vs k hlt);have hj1 := joinS_length (vs.take (k + 1));have hj2 := ssum_take vs (k + 1);have hjb : (joinS (vs.take (k + 1))).length ≤ 4398046511104 := (by omega);clear hj1 hj2;generalize joinS (vs.take k) = q at *;by_cases h0 : 0 < k
   ·have HJ : Hid (joinS (vs.take (k + 1)) = q ++ [44, 32] ++ vs[k]) := by show _ = _;rw [HJ.out, if_pos h0]
    go_wp2
    go_roundw
    case rel => exact ⟨k + 1, by go_num, by omega, by rw [HJ.out];simp, hjb, trivial⟩
    case measure => simp [intOf];omega
   ·have HJ : Hid (joinS (vs.take (k + 1)) = q ++ vs[k]) := by show _ = _;rw [HJ.out, if_neg h0, List.append_nil]
    go_wp2
    go_roundw
    case rel => exact ⟨k + 1, by go_num, by omega, by rw [HJ.out], hjb, trivial⟩
    case measure => simp [intOf];omega
  ·have hk' : k = vs.length := by omega
   subst hk';rw [List.take_length] at *;go_wp2_with fail;refine (refLower_any name w1 hn).mono ?_;rintro e w2 ⟨rfl, hb2⟩;have hZ2 := hZ1.on hb2;have hw2 := Bl.tr hw1 hb2;have hl2 := (hl1.below hb2).mono hb2.size;clear hZ1 hw1 hl1 hb2;go_wp2_with fail;refine (refValues_any l name v w2 hl2 hl hn).mono ?_;rintro e w3 ⟨vx, rfl, hvx, hb3⟩;have hZ3 := hZ2.on hb3;have hw3 := Bl.tr hw2 hb3;obtain ⟨px, cx, rfl, hmx⟩ := (Ss.own hvx).form;clear hZ2 hw2 hl2 hb3 hvx
   (generalize hgenq1 : low name = q1 at *;have Hq1 := Lib.hid hgenq1;clear hgenq1)
   (generalize hgenq3 : (values l name).length = q3 at *;have Hq3 := Lib.hid hgenq3;clear hgenq3)
   have z0 : w3.cell? ⟨w.heap.size, 0, none⟩ = some (S []) := hZ3.cell 0;have z1 : w3.cell? ⟨w.heap.size, 1, none⟩ = some (S []) := hZ3.cell 1;have z2 : w3.cell? ⟨w.heap.size, 2, none⟩ = some (.bool false) := hZ3.cell 2;have zf := hZ3.free;go_wp2;have hR := ((hZ3.set 0 (S q1)).set 1 (S (joinS vs))).set 2 (.bool (decide (0 < q3)));have g0 := hR.cell 0;have g1 := hR.cell 1;have g2 := hR.cell 2;simp at g0 g1 g2
   exact bodyPost_ret (v := fval ⟨q1, joinS vs, decide (0 < q3)⟩) (by simp [results, Tryz.results47, go_sem, g0, g1, g2]) rfl ⟨by rw [HY.out], ((hw3.setCell (Nat.le_refl _) _).setCell (Nat.le_refl _) _).setCell (Nat.le_refl _) _⟩
theorem says_any (name : Bytes) (l : List F) (v : Value) (G : Nat) (w : World) (hG : One w G 26 v) (h : Fs w.heap.size w v l) (hl : fsum l ≤ 1099511627776) (hn : name.length ≤ 1099511627776) :
  Calls Tryz.prog 95 #[S name, .pointer (some ⟨G, 0, none⟩)] w fun e w' => e = .returned (fval (saysF name l)) ∧ Below w.heap.size w w' := by
 have HS := ssum_all l name;have HY : Hid (saysF name l = ⟨low name, joinS (allOf l name), decide (0 < (values l name).length)⟩) := rfl;have hZ := Blk.new w 89 (fcl ⟨[], [], false⟩);have hal : Below w.heap.size w (w.alloc (.cells (fcl ⟨[], [], false⟩) 89)) := (Below.refl _ _).alloc (Nat.le_refl _) _;have h1 := ((h.below hal).mono hal.size);have hG1 := hG.alloc (.cells (fcl ⟨[], [], false⟩) 89);have hGlt := hG.lt;have cG := hG1.cell;have hgz : G < w.heap.size + 1 := (by omega);have hne : ¬ G = w.heap.size := (by omega);have hne' : ¬ w.heap.size = G := (by omega)
 clear hG h;generalize hlow : low name = q1 at *;have Hq1 := Lib.hid hlow;clear hlow;go_enter Tryz.func95, Tryz.ntmps95
 go_wp2_with fail
 go_region_held3 (fun w' => w'.cell? ⟨G, 0, none⟩ = some v)
  (first | go_keep)
  (first
   | (go_at_call 93;refine (Lower_any _ _ (by unfold maxLen;omega)).mono ?_;rintro e w1 ⟨rfl, hb1⟩;rw [Hq1.out];replace hb1 := Bl.undrew hb1;have hl1 := (h1.below hb1).mono hb1.size;have hZ1 := hZ.on hb1;have g1 := (hG1.below hb1 hG1.lt);have hw1 := Bl.tr hal hb1;clear h1 hZ hG1 cG hb1 hal;have cG := g1.cell)
   | (go_at_call 82;refine (All_any l name v _ hl1 hl hn).mono ?_;rintro e w2 ⟨vv, rfl, hvv, hb2⟩;have hl2 := (hl1.below hb2).mono hb2.size;have hZ2 := hZ1.on hb2;have g2 := (g1.below hb2 g1.lt);have hw2 := Bl.tr hw1 hb2;have hr2 := Ss.own hvv;clear hl1 hZ1 g1 cG hb2 hw1 hvv;have cG := g2.cell)
   | (go_at_call 96;refine (Joins_any (allOf l name) _ _ hr2 (by omega)).mono ?_;rintro e w3 ⟨rfl, hb3⟩;have hl3 := (hl2.below hb3).mono hb3.size;have hZ3 := hZ2.on hb3;have g3 := (g2.below hb3 g2.lt);have hw3 := Bl.tr hw2 hb3;clear hl2 hZ2 g2 cG hb3 hw2 hr2;have cG := g3.cell)
   | (go_at_call 55;refine (Values_any l name v _ hl3 hl hn).mono ?_;rintro e w4 ⟨vx, rfl, hvx, hb4⟩;have hZ4 := hZ3.on hb4;have g4 := (g3.below hb4 g3.lt);have hw4 := Bl.tr hw3 hb4;obtain ⟨px, cx, rfl, hmx⟩ := (Ss.own hvx).form;clear hl3 hZ3 g3 cG hb4 hw3 hvx;have cG := g4.cell;have z0 : w4.cell? ⟨w.heap.size, 0, none⟩ = some (S []) := hZ4.cell 0;have z1 : w4.cell? ⟨w.heap.size, 1, none⟩ = some (S []) := hZ4.cell 1;have z2 : w4.cell? ⟨w.heap.size, 2, none⟩ = some (.bool false) := hZ4.cell 2;have zf := hZ4.free))
 have hR := ((hZ4.set 0 (S q1)).set 1 (S (joinS (allOf l name)))).set 2 (.bool (decide (0 < (values l name).length)));have r0 := hR.cell 0;have r1 := hR.cell 1;have r2 := hR.cell 2;simp at r0 r1 r2
 go_wp2;exact bodyPost_ret (v := fval ⟨q1, joinS (allOf l name), decide (0 < (values l name).length)⟩) (by simp [results, Tryz.results95, go_sem, r0, r1, r2]) rfl ⟨by rw [HY.out], ((hw4.setCell (Nat.le_refl _) _).setCell (Nat.le_refl _) _).setCell (Nat.le_refl _) _⟩
open Go.RowKit Go.Dr
def pickP (ns : List Bytes) (l : List F) : List F := ns.map fun n => saysF n l
theorem pickP_snoc (ns : List Bytes) (l : List F) (k : Nat) (h : k < ns.length) : pickP (ns.take (k + 1)) l = pickP (ns.take k) l ++ [saysF ns[k] l] := by
 rw [take_snoc ns k h, pickP, List.map_append];rfl
theorem pickP_length (ns : List Bytes) (l : List F) : (pickP ns l).length = ns.length := by simp [pickP]
theorem Pick_any (ns : List Bytes) (l : List F) (vn vl : Value) (w : World) (hn : Ss w.heap.size w vn ns) (h : Fs w.heap.size w vl l) (hl : fsum l ≤ 1099511627776) (hs : ssum ns ≤ 1099511627776) :
  Calls Tryz.prog 51 #[vn, vl] w (RetFs 89 w (pickP ns l)) := by
 obtain ⟨pn, cn, rfl, hmn⟩ := hn.form;obtain ⟨pa, ca, rfl, hm⟩ := h.form;have hnl := ssum_length ns;have hmf : ∀ (fn : Fn) (first cap : Array Value) (w : World), (Instr.makeFunc fn first cap).run Tryz.prog w = .ok (.func fn first cap) w := fun _ _ _ _ => rfl
 have hG := Dr.One.new w 26 (.slice pa l.length ca);have hal : Below w.heap.size w (w.alloc (.cells #[.slice pa l.length ca] 26)) := (Below.refl _ _).alloc (Nat.le_refl _) _;go_enter Tryz.func51, Tryz.ntmps51
 go_wp2
 go_loopw [6, 12] (fun v' i wr => ∃ k : Nat, i = .int .i64 k ∧ k ≤ ns.length ∧ wr.ownsRow (w.heap.size + 1) 89 3 v' (pickP (ns.take k) l).length (fcells (pickP (ns.take k) l)) ∧ Dr.One wr w.heap.size 26 (.slice pa l.length ca) ∧ Below w.heap.size w wr) (fun _ i _ => ns.length - (intOf i).toNat)
 case atStart => exact ⟨0, rfl, Nat.zero_le _, World.ownsRow_nil _ _ _ _, hG, hal⟩
 case round =>
  obtain ⟨k, rfl, hk, hown, hGr, hbel⟩ := hrel;by_cases hlt : k < ns.length
  ·obtain ⟨b, off, rfl, hbb, c0⟩ := (hn.below hbel).at k hlt
   have hf := ssum_mem (List.getElem_mem hlt);have HV := Lib.hid (pickP_snoc ns l k hlt);have hvl := pickP_length (ns.take k) l;rw [List.length_take] at hvl;have hvl2 : (pickP (ns.take k) l).length ≤ k := (by omega);clear hvl;have hlr := (h.below hbel).mono hbel.size;have hGlt := hGr.lt;generalize pickP (ns.take k) l = out at *;go_wp2_with (first | (at_builtin;refine wpList_appF rfl _ _ 34 rfl (w.heap.size + 1) Tryz.underlying34 (by kernel_rfl) _ _ _ rfl (own_below hown hb1) rfl (by omega) (by have := hb1.size;have := hbel.size;omega) rfl ?_;intro a' c' w2 hown2 hb2 hz2) | (go_at_call 95;refine (says_any ns[k] l _ w.heap.size _ hGr hlr hl (by omega)).mono ?_;rintro e w1 ⟨rfl, hb1⟩))
   go_roundw
   case rel => exact ⟨k + 1, by go_num, by omega, by rw [HV.out, fcells_append, List.length_append];exact hown2, (hGr.below hb1 hGlt).below hb2 (by omega), (hbel.trans (hb1.mono hbel.size)).trans (hb2.mono (by omega))⟩
   case measure => simp [intOf];omega
  ·have hk' : k = ns.length := by omega
   subst hk';rw [List.take_length] at *;go_wp2;go_ret;exact ⟨_, rfl, own_base hown (by omega), hbel⟩
theorem refPick_any (ns : List Bytes) (l : List F) (vn v : Value) (w : World) (hn : Ss w.heap.size w vn ns) (h : Fs w.heap.size w v l) (hl : fsum l ≤ 1099511627776) (hs : ssum ns ≤ 1099511627776) :
  Calls Tryz.prog 18 #[vn, v] w (RetFs 89 w (pickP ns l)) := by
 obtain ⟨pn, cn, rfl, hmn⟩ := hn.form;have hnl := ssum_length ns;go_enter Tryz.func18, Tryz.ntmps18
 go_wp2
 go_loopw [5, 6] (fun v' i wr => ∃ k : Nat, i = .int .i64 k ∧ k ≤ ns.length ∧ wr.ownsRow w.heap.size 89 3 v' (pickP (ns.take k) l).length (fcells (pickP (ns.take k) l)) ∧ Below w.heap.size w wr) (fun _ i _ => ns.length - (intOf i).toNat)
 case atStart => exact ⟨0, rfl, Nat.zero_le _, World.ownsRow_nil _ _ _ _, Below.refl _ _⟩
 case round =>
  obtain ⟨k, rfl, hk, hown, hbel⟩ := hrel;by_cases hlt : k < ns.length
  ·obtain ⟨b, off, rfl, hbb, c0⟩ := (hn.below hbel).at k hlt
   have hf := ssum_mem (List.getElem_mem hlt);have HV := Lib.hid (pickP_snoc ns l k hlt);have hvl := pickP_length (ns.take k) l;rw [List.length_take] at hvl;have hvl2 : (pickP (ns.take k) l).length ≤ k := (by omega);clear hvl;have hlr := (h.below hbel).mono hbel.size;generalize pickP (ns.take k) l = out at *;go_wp2_with (first | (at_builtin;refine wpList_appF rfl _ _ 34 rfl w.heap.size Tryz.underlying34 (by kernel_rfl) _ _ _ rfl (own_below hown hb1) rfl (by omega) (by have := hb1.size;have := hbel.size;omega) rfl ?_;intro a' c' w2 hown2 hb2 hz2) | (go_at_call 47;refine (refSays_any ns[k] l v _ hlr hl (by omega)).mono ?_;rintro e w1 ⟨rfl, hb1⟩))
   go_roundw
   case rel => exact ⟨k + 1, by go_num, by omega, by rw [HV.out, fcells_append, List.length_append];exact hown2, (hbel.trans (hb1.mono hbel.size)).trans hb2⟩
   case measure => simp [intOf];omega
  ·have hk' : k = ns.length := by omega
   subst hk';rw [List.take_length] at *;go_wp2;go_ret;exact ⟨_, rfl, hown, hbel⟩
theorem pickP_one (n : Bytes) (l : List F) : pickP [n] l = [saysF n l] := rfl
theorem ssum_one (n : Bytes) : ssum [n] = n.length + 1 := by simp [ssum]
def saysOk (l : List F) (p : F) : Bool := (saysF p.n l).v == p.v && (saysF p.n l).m == p.m
def matchP (ps l : List F) : Bool := ps.all (saysOk l)
theorem all_take_succ' (f : F → Bool) (ps : List F) (k : Nat) (h : k < ps.length) (ha : (ps.take k).all f = true) (hk : f ps[k] = true) : (ps.take (k + 1)).all f = true := by
 rw [take_snoc ps k h, List.all_append, ha];simp [hk]
theorem all_miss' (f : F → Bool) (ps : List F) (k : Nat) (h : k < ps.length) (hk : f ps[k] = false) : ps.all f = false := by
 rw [List.all_eq_false];exact ⟨ps[k], List.getElem_mem h, by simp [hk]⟩
theorem Match_any (ps l : List F) (vp v : Value) (w : World) (hp : Fs w.heap.size w vp ps) (h : Fs w.heap.size w v l) (hl : fsum l ≤ 1099511627776) (hs : ∀ p ∈ ps, p.n.length ≤ 549755813888) :
  Calls Tryz.prog 63 #[vp, v] w fun e w' => e = .returned (.bool (matchP ps l)) ∧ Below w.heap.size w w' := by
 obtain ⟨pa, ca, rfl, hm⟩ := hp.form;have HN := Lib.hid hs;clear hs;go_enter Tryz.func63, Tryz.ntmps63
 go_wp2
 go_loopw [10] (fun i wr => ∃ k : Nat, i = .int .i64 k ∧ k ≤ ps.length ∧ Hid ((ps.take k).all (saysOk l) = true) ∧ Below w.heap.size w wr) (fun i _ => ps.length - (intOf i).toNat)
 case atStart => exact ⟨0, rfl, Nat.zero_le _, rfl, Below.refl _ _⟩
 case round =>
  obtain ⟨k, rfl, hk, HA, hbel⟩ := hrel;by_cases hlt : k < ps.length
  ·obtain ⟨b, off, rfl, hbb, c0, c1, c2⟩ := (hp.below hbel).at k hlt
   have hnk := HN.out ps[k] (List.getElem_mem hlt);have HK := Lib.hid (all_take_succ' (saysOk l) ps k hlt HA.out);have HF := Lib.hid (all_miss' (saysOk l) ps k hlt);have HS : Hid (saysOk l ps[k] = ((saysF ps[k].n l).v == ps[k].v && (saysF ps[k].n l).m == ps[k].m)) := rfl;have hlr := (h.below hbel).mono hbel.size;have hZ := Blk.new wr 89 (fcl ps[k]);have hal : Below wr.heap.size wr (wr.alloc (.cells (fcl ps[k]) 89)) := (Below.refl _ _).alloc (Nat.le_refl _) _;have hl1 := (hlr.below hal).mono hal.size;have hZ2 := hZ.alloc (.cells #[S ps[k].n] 9);have hal2 : Below (wr.alloc (.cells (fcl ps[k]) 89)).heap.size (wr.alloc (.cells (fcl ps[k]) 89)) ((wr.alloc (.cells (fcl ps[k]) 89)).alloc (.cells #[S ps[k].n] 9)) := (Below.refl _ _).alloc (Nat.le_refl _) _;have hl2 := (hl1.below hal2).mono hal2.size
   have hln : Ss ((wr.alloc (.cells (fcl ps[k]) 89)).alloc (.cells #[S ps[k].n] 9)).heap.size ((wr.alloc (.cells (fcl ps[k]) 89)).alloc (.cells #[S ps[k].n] 9)) (.slice (some ⟨wr.heap.size + 1, 0, none⟩) 1 1) [ps[k].n] :=
    (Rd.lit_at (wr.alloc (.cells (fcl ps[k]) 89)) (wr.heap.size + 1) (by simp) 9 #[S ps[k].n] 1 1 rfl (by decide)).mono (by simp)
   have hw2 := Bl.tr hal hal2;clear hlr hZ hal hl1 hal2;go_wp2_with fail;refine (Pick_any [ps[k].n] l _ v _ hln hl2 hl (by rw [ssum_one];omega)).mono ?_;rintro e w1 ⟨vq, rfl, hvq, hb1⟩;rw [pickP_one] at hvq;have hq : Fs w1.heap.size w1 vq [saysF ps[k].n l] := Fs.own hvq;have hZ1 := hZ2.on hb1;have hw1 := Bl.tr hw2 hb1;have hr1 := hbel.trans (hw1.mono hbel.size);have zl := hZ1.lt;clear hZ2 hw2 hb1 hvq hln hl2;generalize saysF ps[k].n l = q at *;obtain ⟨pq, cq, rfl, hmq⟩ := hq.form;obtain ⟨bq, oq, rfl, hbq, d0, d1, d2⟩ := hq.at 0 (by simp);simp at d0 d1 d2
   have z1 := hZ1.cell 1;have z2 := hZ1.cell 2;simp at z1 z2
   by_cases e1 : q.v = ps[k].v
   ·have g1 : (!q.v == ps[k].v) = false := by simp [e1]
    by_cases e2 : q.m = ps[k].m
    ·have g2 : (q.m != ps[k].m) = false := by simp [e2]
     have g3 : (!q.m == ps[k].m) = false := (by simp [e2]);have HY := Lib.hid (HK.out (by rw [HS.out];simp [e1, e2]));clear e1 e2;go_wp2
     go_roundw
     case rel => exact ⟨k + 1, by go_num, by omega, HY, hr1.alloc (by have := hr1.size;omega) _⟩
     case measure => simp [intOf];omega
    ·have g2 : (q.m != ps[k].m) = true := by simpa using e2
     have g3 : (!q.m == ps[k].m) = true := (by simpa using e2);have HY := Lib.hid (HF.out (by rw [HS.out];simp [e2]));clear e1 e2;go_wp2;go_ret;exact ⟨ret_bool (by rw [matchP, HY.out]), hr1.alloc (by have := hr1.size;omega) _⟩
   ·have g1 : (!q.v == ps[k].v) = true := by simpa using e1
    have HY := Lib.hid (HF.out (by rw [HS.out];simp [e1]));clear e1;go_wp2;go_ret;exact ⟨ret_bool (by rw [matchP, HY.out]), hr1.alloc (by have := hr1.size;omega) _⟩
  ·have hk' : k = ps.length := by omega
   subst hk';go_wp2;go_ret;exact ⟨ret_bool (by have := HA.out;rw [List.take_length] at this;rw [matchP, this]), hbel⟩
theorem refMatch_any (ps l : List F) (vp v : Value) (w : World) (hp : Fs w.heap.size w vp ps) (h : Fs w.heap.size w v l) (hl : fsum l ≤ 1099511627776) (hs : ∀ p ∈ ps, p.n.length ≤ 549755813888) :
  Calls Tryz.prog 69 #[vp, v] w fun e w' => e = .returned (.bool (matchP ps l)) ∧ Below w.heap.size w w' := by
 obtain ⟨pa, ca, rfl, hm⟩ := hp.form;have HN := Lib.hid hs;clear hs;go_enter Tryz.func69, Tryz.ntmps69
 go_wp2
 go_loopw [5] (fun i wr => ∃ k : Nat, i = .int .i64 k ∧ k ≤ ps.length ∧ Hid ((ps.take k).all (saysOk l) = true) ∧ Below w.heap.size w wr) (fun i _ => ps.length - (intOf i).toNat)
 case atStart => exact ⟨0, rfl, Nat.zero_le _, rfl, Below.refl _ _⟩
 case round =>
  obtain ⟨k, rfl, hk, HA, hbel⟩ := hrel;by_cases hlt : k < ps.length
  ·obtain ⟨b, off, rfl, hbb, c0, c1, c2⟩ := (hp.below hbel).at k hlt
   have hnk := HN.out ps[k] (List.getElem_mem hlt);have HK := Lib.hid (all_take_succ' (saysOk l) ps k hlt HA.out);have HF := Lib.hid (all_miss' (saysOk l) ps k hlt);have HS : Hid (saysOk l ps[k] = ((saysF ps[k].n l).v == ps[k].v && (saysF ps[k].n l).m == ps[k].m)) := rfl;have hlr := (h.below hbel).mono hbel.size;have hbw : b < wr.heap.size := Nat.lt_of_lt_of_le hbb hbel.size;go_wp2_with fail;refine (refSays_any ps[k].n l v wr hlr hl (by omega)).mono ?_;rintro e w1 ⟨rfl, hb1⟩;have d1 := (hb1.cell (p := ⟨b, off + k * 3 + 1, none⟩) hbw).trans c1;have d2 := (hb1.cell (p := ⟨b, off + k * 3 + 2, none⟩) hbw).trans c2;have hbw1 : b < w1.heap.size := (by have := hb1.size;omega);have hbn : ¬ b = w1.heap.size := (by omega);have hr1 := hbel.trans (hb1.mono hbel.size);generalize saysF ps[k].n l = q at *;clear c0 c1 c2 hb1;have i0 : (0 : Int) ≤ (k : Int) := (by omega);have i1 : (k : Int) < (ps.length : Int) := (by omega);by_cases e1 : q.v = ps[k].v
   ·have g1 : (!q.v == ps[k].v) = false := by simp [e1]
    by_cases e2 : q.m = ps[k].m
    ·have g2 : (q.m != ps[k].m) = false := by simp [e2]
     have g3 : (!q.m == ps[k].m) = false := (by simp [e2]);have HY := Lib.hid (HK.out (by rw [HS.out];simp [e1, e2]));clear e1 e2;go_wp2_with fail;go_quiet (fail)
     go_wp2
     go_roundw
     case rel => exact ⟨k + 1, by go_num, by omega, HY, below_drewN (hr1.alloc (by have := hr1.size;omega) _) _⟩
     case measure => simp [intOf];omega
    ·have g2 : (q.m != ps[k].m) = true := by simpa using e2
     have g3 : (!q.m == ps[k].m) = true := (by simpa using e2);have HY := Lib.hid (HF.out (by rw [HS.out];simp [e2]));clear e1 e2;go_wp2_with fail;go_quiet (fail)
     go_wp2;go_ret;exact ⟨ret_bool (by rw [matchP, HY.out]), below_drewN (hr1.alloc (by have := hr1.size;omega) _) _⟩
   ·have g1 : (!q.v == ps[k].v) = true := by simpa using e1
    have HY := Lib.hid (HF.out (by rw [HS.out];simp [e1]));clear e1;go_wp2_with fail;go_quiet (fail)
    go_wp2;go_ret;exact ⟨ret_bool (by rw [matchP, HY.out]), below_drewN (hr1.alloc (by have := hr1.size;omega) _) _⟩
  ·have hk' : k = ps.length := by omega
   subst hk';go_wp2;go_ret;exact ⟨ret_bool (by have := HA.out;rw [List.take_length] at this;rw [matchP, this]), hbel⟩
end Go.Proofs.YtahapblgmehngaaGreatDoor
