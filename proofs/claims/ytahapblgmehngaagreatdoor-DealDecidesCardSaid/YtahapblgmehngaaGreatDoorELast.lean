/- Parts of the proof of DealDecides_holds: the texts Dea8 Dea9 DeaA DeaB Law21h CardDDecides. -/
import Derived.Test.YtahapblgmehngaaGreatDoorE31
import Derived.Test.YtahapblgmehngaaGreatDoorE30
import Derived.Test.YtahapblgmehngaaGreatDoorCards
import Derived.Test.YtahapblgmehngaaGreatDoorTie
set_option linter.unusedSimpArgs false
set_option linter.unusedVariables false
set_option linter.unnecessarySimpa false
set_option maxRecDepth 100000
set_option maxHeartbeats 64000000
namespace Go.Proofs.YtahapblgmehngaaGreatDoor
open Go.RowKit Go.Dr
theorem mem_costs {l : List Nd} {n : Nd} (h : n ∈ l) : n.x.cost ≤ costs (l.map Nd.x) := by
 obtain ⟨a, b, rfl⟩ := List.append_of_mem h;rw [List.map_append, List.map_cons, costs_append, costs_cons];omega
theorem Sh.lf_small {fb rb : Nat} {w : World} {s R m : Nat} {most last : Int} {l : List Nd} (h : Sh fb rb w s R m most last l) {n : Nd} (hn : n ∈ l) : fsum n.x.lf ≤ 1048576 := by
 have h1 := mem_costs hn;have h2 := h.room;have h3 := h.most1;unfold It.cost at h1;omega
theorem Sh.but_ty {fb rb : Nat} {w w' : World} {s R m : Nat} {most last : Int} {l : List Nd} {T : Nat → Prop} (h : Sh fb rb w s R m most last l) (hb : But T w w') (hT : ∀ k, T k → ∃ t xs, Blk w k t xs ∧ t ≠ 100 ∧ t ≠ 97 ∧ t ≠ 89 ∧ t ≠ 60) : Sh fb rb w' s R m most last l := by
 have hno : ∀ (g : Nat) (t : TypeId) (cur : Array Value), w.heap[g]? = some (.cells cur t (0, 0)) → (t = 89 ∨ t = 60) → ¬ T g := fun g t cur hg ht ho => by
  obtain ⟨t', xs, hx, -, -, h3, h4⟩ := hT g ho;unfold Blk at hx;rw [hx] at hg;simp only [Option.some.injEq, Obj.cells.injEq] at hg
  rcases ht with ht | ht
  ·exact h3 (hg.2.1.trans ht)
  ·exact h4 (hg.2.1.trans ht)
 refine h.keep (fun k hk => hb.block k (h.foot_lt hk) fun ho => ?_) fun n hn => (h.rows n hn).block fun g cur hg _ => hb.block g (by rcases hg with hg | hg <;> exact (Array.getElem?_eq_some_iff.1 hg).1) ?_
 ·obtain ⟨t, xs, hx, h1, h2, -, -⟩ := hT k ho
  exact h.off hx h1 h2 hk
 ·rcases hg with hg | hg
  ·exact hno g _ cur hg (.inl rfl)
  ·exact hno g _ cur hg (.inr rfl)
theorem own_but21 {w w' : World} {B base : Nat} {e : TypeId} {size : Nat} {v : Value} {n : Nat} {xs : List Value} (ho : w.ownsRow base e size v n xs) (hb : But (fun k => B ≤ k ∧ Own21 w k) w w') (h1 : e ≠ 38) (h2 : e ≠ 72) : w'.ownsRow base e size v n xs :=
 own_block ho fun g cur hg _ => hb.block g (Array.getElem?_eq_some_iff.1 hg).1 fun h => own21_not (show Blk w g e cur from hg) h1 h2 h.2
def kindOf (lr : List F) (m : Bytes) (now st asked came : Int) (fd : Bool) (lf : List F) : Nat :=
 if (fd && goodF lr lf st asked came now) = true then 1
 else if (saysC lr).oi = true then 4
 else if (m == [72, 69, 65, 68]) = true then 5
 else if (fd && decide (0 < (asksF lf).length)) = true then 2
 else 3
theorem kind_lost (lr : List F) (m : Bytes) (now st asked came : Int) (lf : List F) : kindOf lr m now st asked came false lf = 3 ∨ kindOf lr m now st asked came false lf = 4 ∨ (kindOf lr m now st asked came false lf = 5 ∧ m = [72, 69, 65, 68]) := by
 unfold kindOf;rw [if_neg (by simp)]
 split
 ·exact .inr (.inl rfl)
 ·split
  ·rename_i h
   exact .inr (.inr ⟨rfl, by simpa using h⟩)
  ·rw [if_neg (by simp)]
   exact .inl rfl
theorem deal_kind (lr : List F) (m : Bytes) (now : Int) (q : En) (id : Int) (fd : Bool) (lf : List F) : dealOf lr m now q id fd lf = if kindOf lr m now q.st q.asked q.came fd lf = 1 ∨ kindOf lr m now q.st q.asked q.came fd lf = 2 then dealV (kindOf lr m now q.st q.asked q.came fd lf : Nat) id q.key q.vp q.st q.vf q.body q.asked q.came else dealZ (kindOf lr m now q.st q.asked q.came fd lf : Nat) := by
 unfold dealOf kindOf
 repeat' split
 all_goals first | rfl | (simp_all;done) | omega
abbrev enO : En := ⟨[], .slice none 0 0, 0, .slice none 0 0, [], 0, 0⟩
def ndOut (n : Nd) (vp vf : Value) : En := ⟨n.x.key, vp, n.x.st, vf, n.x.body, n.x.asked, n.x.came⟩
open Go.RowKit Go.Dr
theorem Rs.but_ty {B r : Nat} {w w' : World} {most last : Int} {v : Value} {er : List Ev} {T : Nat → Prop} (h : Rs B w r most last v er) (hb : But T w w') (hT : ∀ k, T k → B ≤ k ∧ ∃ t xs, Blk w k t xs ∧ t ≠ 70 ∧ t ≠ 105 ∧ t ≠ 89 ∧ t ≠ 60) : Rs B w' r most last v er := by
 have hno : ∀ (t : TypeId), (t = 70 ∨ t = 105 ∨ t = 89 ∨ t = 60) → ∀ (g : Nat) (cur : Array Value), w.heap[g]? = some (.cells cur t (0, 0)) → ¬ T g := fun t ht g cur hg ho => by
  obtain ⟨-, t', xs, hx, h1, h2, h3, h4⟩ := hT g ho;unfold Blk at hx;rw [hx] at hg;simp only [Option.some.injEq, Obj.cells.injEq] at hg
  rcases ht with ht | ht | ht | ht
  ·exact h1 (hg.2.1.trans ht)
  ·exact h2 (hg.2.1.trans ht)
  ·exact h3 (hg.2.1.trans ht)
  ·exact h4 (hg.2.1.trans ht)
 have hB := Nat.le_of_lt h.at;exact ⟨h.blk.but hb (hno _ (.inl rfl) _ _ h.blk), own_block h.row fun g cur hg _ => hb.block g (Array.getElem?_eq_some_iff.1 hg).1 (hno _ (.inr (.inl rfl)) g cur hg), fun e he => ⟨(h.lists e he).1.but hb (fun k hk => (hT k hk).1) hB (hno _ (.inr (.inr (.inl rfl)))), (h.lists e he).2.but hb (fun k hk => (hT k hk).1) hB (hno _ (.inr (.inr (.inr rfl))))⟩, h.lo, h.room, h.most1⟩
theorem own22_ty {w : World} {k : Nat} (h : Own22 w k) : ∃ t xs, Blk w k t xs ∧ (t = 38 ∨ t = 72 ∨ t = 36) := by
 rcases h with (⟨xs, hx⟩ | ⟨xs, hx⟩) | ⟨xs, hx⟩
 ·exact ⟨_, xs, hx, .inl rfl⟩
 ·exact ⟨_, xs, hx, .inr (.inl rfl)⟩
 ·exact ⟨_, xs, hx, .inr (.inr rfl)⟩
structure Half (w : World) (R r M : Nat) (last : Int) (v : Value) (er : List Ev) (l l' : List Nd) (key : Bytes) (list : List F) : Prop where
 sh : Sh R R w (R + 2) R (R + 1) (M : Int) last l'
 rs : Rs R w r (M : Int) last v er
 eq : er.map Ev.x = l.map Nd.x
 way : (bestOf key list l = none ∧ l' = l) ∨ ∃ a n b, l = a ++ n :: b ∧ bestOf key list l = some n ∧ l' = a ++ b ++ [n] ∧ (l.map fun n => n.x.id).Nodup
section
variable {w w' : World} {R r M : Nat} {last : Int} {v : Value} {er : List Ev} {l l' : List Nd} {key : Bytes} {list : List F}
theorem Half.below (h : Half w R r M last v er l l' key list) (hb : Below w.heap.size w w') : Half w' R r M last v er l l' key list := ⟨h.sh.below hb, h.rs.below hb, h.eq, h.way⟩
theorem Half.but22 (h : Half w R r M last v er l l' key list) {X : Nat} (hX : R ≤ X) (hb : But (fun k => X ≤ k ∧ Own22 w k) w w') : Half w' R r M last v er l l' key list := by
 refine ⟨h.sh.but_ty hb fun k hk => ?_, h.rs.but_ty hb fun k hk => ⟨Nat.le_trans hX hk.1, ?_⟩, h.eq, h.way⟩
 ·obtain ⟨t, xs, hx, ht⟩ := own22_ty hk.2
  exact ⟨t, xs, hx, by rcases ht with rfl | rfl | rfl <;> decide⟩
 ·obtain ⟨t, xs, hx, ht⟩ := own22_ty hk.2
  exact ⟨t, xs, hx, by rcases ht with rfl | rfl | rfl <;> decide⟩
theorem Two.but22 (h : Two w R r M last v er l) {X : Nat} (hX : R ≤ X) (hb : But (fun k => X ≤ k ∧ Own22 w k) w w') : Two w' R r M last v er l := by
 refine ⟨h.sh.but_ty hb fun k hk => ?_, h.rs.but_ty hb fun k hk => ⟨Nat.le_trans hX hk.1, ?_⟩, h.eq⟩
 ·obtain ⟨t, xs, hx, ht⟩ := own22_ty hk.2
  exact ⟨t, xs, hx, by rcases ht with rfl | rfl | rfl <;> decide⟩
 ·obtain ⟨t, xs, hx, ht⟩ := own22_ty hk.2
  exact ⟨t, xs, hx, by rcases ht with rfl | rfl | rfl <;> decide⟩
theorem but21_22 {X : Nat} (hb : But (fun k => X ≤ k ∧ Own21 w k) w w') : But (fun k => X ≤ k ∧ Own22 w k) w w' := hb.more fun k hk => ⟨hk.1, .inl hk.2⟩
theorem half_find (h : Two w R r M last v er l) (hids : ∀ n ∈ l, n.x.id ≤ last) (vl : Value) (hf : Fo 60 R w vl list) (hl : fsum list ≤ 1099511627776) :
  Calls Tryz.prog 33 #[Ptr (R + 2), S key, vl] w fun e w1 => Keeps w w1 ∧ w.heap.size ≤ w1.heap.size ∧ Below R w w1 ∧ Fo 60 R w1 vl list ∧ ∃ l', Half w1 R r M last v er l l' key list ∧ (∀ n ∈ l', n.x.id ≤ last) ∧
   ((bestOf key list l = none ∧ e = .returned (.tuple #[entZ, .int .i64 0, .bool false])) ∨ ∃ n v1, n ∈ l ∧ bestOf key list l = some n ∧ e = .returned (.tuple #[v1, .int .i64 n.x.id, .bool true]) ∧ RetE n.x w.heap.size v1 w1) := by
 have hRw : R ≤ w.heap.size := Nat.le_of_lt h.rlt;refine (Find_any R R (R + 2) R (R + 1) (M : Int) last l key vl list w h.sh (hf.fs hRw) hl).mono ?_;rintro e w1 (⟨hno, rfl, hb1⟩ | ⟨a, n, b, v1, hlab, hbo, rfl, hret, hs1, hb1⟩)
 ·exact ⟨Keeps.below hb1, hb1.size, hb1.mono hRw, hf.below hb1 hRw, l, ⟨h.sh.below hb1, h.rs.below hb1, h.eq, .inl ⟨hno, rfl⟩⟩, hids, .inl ⟨hno, rfl⟩⟩
 ·refine ⟨Keeps.but_s h.sh hb1, hb1.size, h.drop hb1, hf.but_s h.sh h.sh.base hRw hb1 (by decide) (by decide), a ++ b ++ [n], ⟨hs1, h.rsb hb1, h.eq, .inr ⟨a, n, b, hlab, hbo, rfl, h.sh.ids⟩⟩, fun x hx => hids x (by rw [hlab];simp only [List.mem_append, List.mem_cons, List.mem_singleton, List.not_mem_nil, or_false] at hx ⊢;rcases hx with (hx | hx) | hx <;> simp [hx]), .inr ⟨n, v1, by rw [hlab];simp, hbo, rfl, hret⟩⟩
theorem half_ref (h : Half w R r M last v er l l' key list) (vl : Value) (hf : Fo 60 R w vl list) (hl : fsum list ≤ 1099511627776) :
  Calls Tryz.prog 39 #[Ptr r, S key, vl] w fun e w3 => Keeps w w3 ∧ w.heap.size ≤ w3.heap.size ∧ Below R w w3 ∧ Fo 60 R w3 vl list ∧ (∃ v' er', Two w3 R r M last v' er' l') ∧
   ((bestOf key list l = none ∧ e = .returned (.tuple #[entZ, .int .i64 0, .bool false])) ∨ ∃ n ev, n ∈ l ∧ bestOf key list l = some n ∧ ev.x = n.x ∧ EvFs R w3 ev ∧ e = .returned (.tuple #[ev.val, .int .i64 n.x.id, .bool true])) := by
 have hRw : R ≤ w.heap.size := Nat.le_of_lt h.sh.rlt;refine (refFind_any key vl list w h.rs (hf.fs hRw) hl).mono ?_;intro e w3 hp
 rcases h.way with ⟨hno, rfl⟩ | ⟨a, n, b, hlab, hbo, rfl, hidn⟩
 ·rw [join_lost h.eq hno] at hp
  obtain ⟨rfl, hb3⟩ := hp;exact ⟨Keeps.below hb3, hb3.size, hb3.mono hRw, hf.below hb3 hRw, ⟨v, er, h.sh.below hb3, h.rs.below hb3, h.eq⟩, .inl ⟨hno, rfl⟩⟩
 ·have heq := h.eq
  have hbo' := hbo
  rw [hlab] at heq hidn hbo';rw [join_best heq hidn hbo'] at hp;obtain ⟨hj, rfl, ⟨v', hr3⟩, hb3⟩ := hp;obtain ⟨hk, hx, h1, h2⟩ := join_split heq;refine ⟨Keeps.but_r h.rs.blk hb3, hb3.size, hb3.below (fun k hk => by rw [hk];exact h.rs.lo) (Nat.le_of_lt h.rs.at), hf.but_r h.rs.blk h.rs.lo hb3 (by decide), ⟨v', _, h.sh.but_r h.rs.blk hb3, hr3, ?_⟩, .inr ⟨n, er[a.length], by rw [hlab];simp, hbo, hx, hr3.lists _ (by simp), by rw [hx]⟩⟩;rw [List.map_append, join_out heq];simp [hx]
end
open Go.RowKit Go.Dr
def Keeps22 (w w' : World) : Prop := ∀ (b : Nat) (t : TypeId) (xs : Array Value), t ≠ 100 → t ≠ 97 → t ≠ 70 → t ≠ 38 → t ≠ 72 → t ≠ 36 → Blk w b t xs → Blk w' b t xs
theorem own22_not {w : World} {k : Nat} {t : TypeId} {xs : Array Value} (h : Blk w k t xs) (h1 : t ≠ 38) (h2 : t ≠ 72) (h3 : t ≠ 36) : ¬ Own22 w k := by
 intro ho;obtain ⟨t', ys, hy, ht⟩ := own22_ty ho;unfold Blk at h hy;rw [h] at hy;simp only [Option.some.injEq, Obj.cells.injEq] at hy
 rcases ht with ht | ht | ht
 ·exact h1 (hy.2.1.trans ht)
 ·exact h2 (hy.2.1.trans ht)
 ·exact h3 (hy.2.1.trans ht)
theorem Keeps22.own {w w' : World} {base : Nat} {e : TypeId} {size : Nat} {v : Value} {n : Nat} {xs : List Value} (h : Keeps22 w w') (ho : w.ownsRow base e size v n xs) (h1 : e ≠ 100) (h2 : e ≠ 97) (h3 : e ≠ 70) (h4 : e ≠ 38) (h5 : e ≠ 72) (h6 : e ≠ 36) : w'.ownsRow base e size v n xs :=
 own_block ho fun g cur hg _ => (h g e cur h1 h2 h3 h4 h5 h6 hg).trans hg.symm
theorem Keeps22.of {w w1 w2 w' : World} {B : Nat} (h1 : Below w.heap.size w w1) (h2 : Keeps w1 w2) (hb : But (fun k => B ≤ k ∧ Own22 w2 k) w2 w') : Keeps22 w w' := fun g t xs k1 k2 k3 k4 k5 k6 h => by
 have h2' := h2 g t xs k1 k2 k3 (h.on h1)
 exact h2'.but hb fun ho => own22_not h2' k4 k5 k6 ho.2
theorem Fo.but22 {t : TypeId} {B X : Nat} {w w' : World} {v : Value} {l : List F} (h : Fo t B w v l) (hb : But (fun k => X ≤ k ∧ Own22 w k) w w') (hX : B ≤ X) (hB : B ≤ w.heap.size) (h1 : t ≠ 38) (h2 : t ≠ 72) (h3 : t ≠ 36) : Fo t B w' v l :=
 h.but hb (fun k hk => Nat.le_trans hX hk.1) hB fun g cur hg ho => own22_not (show Blk w g t cur from hg) h1 h2 h3 ho.2
section
variable {w : World} {R r M : Nat} {last : Int} {v : Value} {er : List Ev} {l l' : List Nd}
theorem decide_first (h : Two w R r M last v er l) (hids : ∀ n ∈ l, n.x.id ≤ last) (q : Rq) (lr : List F) (now : Int) (hr : Fo 60 R w q.v lr) (hl : fsum lr ≤ 1099511627776) (hk : q.s.length + q.a.length + q.p.length ≤ 4611686018427387904) :
    Calls Tryz.prog 12 #[Ptr (R + 2), q.val, .int .i64 now] w fun e w' => Below R w w' ∧ Fo 60 R w' q.v lr ∧
      ((aloneB q.m lr = true ∧ e = .returned (dealZ 5) ∧ Two w' R r M last v er l) ∨
       (aloneB q.m lr = false ∧ ∃ l', Half w' R r M last v er l l' (keyR q) lr ∧ (∀ n ∈ l', n.x.id ≤ last) ∧
        ((bestOf (keyR q) lr l = none ∧ e = .returned (dealOf lr q.m now enO 0 false [])) ∨ ∃ n vp vf, n ∈ l ∧ bestOf (keyR q) lr l = some n ∧ w'.ownsRow 0 89 3 vp n.x.lp.length (fcells n.x.lp) ∧ w'.ownsRow 0 60 3 vf n.x.lf.length (fcells n.x.lf) ∧ e = .returned (dealOf lr q.m now (ndOut n vp vf) n.x.id true n.x.lf)))) := by
  have hR : R ≤ w.heap.size := Nat.le_of_lt h.rlt;refine (Decide_by R (fun w2 q' id fd lf => Below R w w2 ∧ Fo 60 R w2 q.v lr ∧ ∃ l', Half w2 R r M last v er l l' (keyR q) lr ∧ (∀ n ∈ l', n.x.id ≤ last) ∧ ((bestOf (keyR q) lr l = none ∧ q' = enO ∧ id = 0 ∧ fd = false ∧ lf = []) ∨ ∃ n vp vf, n ∈ l ∧ bestOf (keyR q) lr l = some n ∧ q' = ndOut n vp vf ∧ id = n.x.id ∧ fd = true ∧ lf = n.x.lf ∧ w2.ownsRow 0 89 3 vp n.x.lp.length (fcells n.x.lp) ∧ w2.ownsRow 0 60 3 vf n.x.lf.length (fcells n.x.lf))) (some ⟨R + 2, 0, none⟩) q lr now w hR hr hl hk ?_).mono ?_
  · intro w1 hb1
    have h1 := h.below hb1;have hR1 : R ≤ w1.heap.size := Nat.le_trans hR hb1.size;have hr1 := hr.below hb1 hR;refine (half_find h1 hids q.v hr1 hl).mono ?_;rintro e w2 ⟨hk2, hs2, hb2, hr2, l', hh, hi, (⟨hno, rfl⟩ | ⟨n, v1, hn, hbo, rfl, hret⟩)⟩
    · exact ⟨enO, 0, false, [], ⟨_, _, _, rfl⟩, .inl (Rd.nil _ _ _), by simp [fsum], hr2, rfl, hk2, hs2, (hb1.mono hR).trans hb2, hr2, l', hh, hi, .inl ⟨hno, rfl, rfl, rfl, rfl⟩⟩
    · have hsm := h.sh.lf_small hn
      obtain ⟨vp, vf, rfl, o1, o2⟩ := hret;obtain ⟨ap, kp, hvp, -⟩ := (Fs.own o1).form;exact ⟨ndOut n vp vf, n.x.id, true, n.x.lf, ⟨_, _, _, hvp⟩, .inr (own_base o2 (Nat.zero_le _)), by omega, hr2, rfl, hk2, hs2, (hb1.mono hR).trans hb2, hr2, l', hh, hi, .inr ⟨n, vp, vf, hn, hbo, rfl, rfl, rfl, rfl, own_base o1 (Nat.zero_le _), own_base o2 (Nat.zero_le _)⟩⟩
  · rintro e w' (⟨ha, rfl, hb⟩ | ⟨ha, w1, w2, q', id, fd, lf, hb1, hk2, ⟨hbw, hr2, l', hh, hi, hc⟩, hb, rfl⟩)
    · exact ⟨hb.mono hR, hr.below hb hR, .inl ⟨ha, rfl, h.below hb⟩⟩
    · have hR2 : R ≤ w2.heap.size := Nat.le_trans hR hbw.size
      refine ⟨hbw.trans (hb.below (fun k hk => Nat.le_trans hR hk.1) hR2), hr2.but22 (but21_22 hb) hR hR2 (by decide) (by decide) (by decide), .inr ⟨ha, l', hh.but22 hR (but21_22 hb), hi, ?_⟩⟩
      rcases hc with ⟨hno, rfl, rfl, rfl, rfl⟩ | ⟨n, vp, vf, hn, hbo, rfl, rfl, rfl, rfl, o1, o2⟩
      · exact .inl ⟨hno, rfl⟩
      · exact .inr ⟨n, vp, vf, hn, hbo, own_but21 o1 hb (by decide) (by decide), own_but21 o2 hb (by decide) (by decide), rfl⟩
theorem decide_alone (h : Two w R r M last v er l) (q : Rq) (lr : List F) (now : Int) (hr : Fo 60 R w q.v lr) (hl : fsum lr ≤ 1099511627776) (hk : q.s.length + q.a.length + q.p.length ≤ 4611686018427387904) (ha : aloneB q.m lr = true) :
  Calls Tryz.prog 13 #[Ptr r, q.val, .int .i64 now] w fun e w' => e = .returned (dealZ 5) ∧ Below w.heap.size w w' := by
 have hR : R ≤ w.heap.size := Nat.le_of_lt h.rlt;refine (refDecide_by R (fun _ _ _ _ _ => True) (some ⟨r, 0, none⟩) q lr now w hR hr hl hk ?_).mono ?_
 ·intro w1 hb1
  have h1 := h.below hb1;have hR1 : R ≤ w1.heap.size := Nat.le_trans hR hb1.size;have hr1 := hr.below hb1 hR;refine (refFind_any (keyR q) q.v lr w1 h1.rs (hr1.fs hR1) hl).mono ?_;intro e w2 hp
  cases hb : bestAt (keyR q) lr (er.map Ev.x) with
  | none =>
   rw [hb] at hp;obtain ⟨rfl, hb2⟩ := hp;exact ⟨enO, 0, false, [], ⟨_, _, _, rfl⟩, .inl (Rd.nil _ _ _), by simp [fsum], hr1.below hb2 hR1, rfl, Keeps.below hb2, hb2.size, trivial⟩
  | some j =>
   rw [hb] at hp;obtain ⟨hj, rfl, ⟨v', hr3⟩, hb2⟩ := hp;have hc := h1.rs.cost (List.getElem_mem hj);have hls := hr3.lists er[j] (by simp);obtain ⟨ap, kp, hvp, -⟩ := hls.1.form;exact ⟨⟨er[j].x.key, er[j].vp, er[j].x.st, er[j].vf, er[j].x.body, er[j].x.asked, er[j].x.came⟩, er[j].x.id, true, er[j].x.lf, ⟨_, _, _, hvp⟩, hls.2, by unfold It.cost at hc;omega, hr1.but_r h1.rs.blk h1.rs.lo hb2 (by decide), rfl, Keeps.but_r h1.rs.blk hb2, hb2.size, trivial⟩
 ·rintro e w' (⟨-, rfl, hb⟩ | ⟨hno, -⟩)
  ·exact ⟨rfl, hb⟩
  ·rw [ha] at hno
   cases hno
theorem decide_then {q : Rq} {lr : List F} (h : Half w R r M last v er l l' (keyR q) lr) (now : Int) (hr : Fo 60 R w q.v lr) (hl : fsum lr ≤ 1099511627776) (hk : q.s.length + q.a.length + q.p.length ≤ 4611686018427387904) (ha : aloneB q.m lr = false) :
  Calls Tryz.prog 13 #[Ptr r, q.val, .int .i64 now] w fun e w' => Below R w w' ∧ Keeps22 w w' ∧ (∃ v' er', Two w' R r M last v' er' l') ∧
   ((bestOf (keyR q) lr l = none ∧ e = .returned (dealOf lr q.m now enO 0 false [])) ∨ ∃ n vp vf, n ∈ l ∧ bestOf (keyR q) lr l = some n ∧ Fo 89 R w' vp n.x.lp ∧ Fo 60 R w' vf n.x.lf ∧ e = .returned (dealOf lr q.m now (ndOut n vp vf) n.x.id true n.x.lf)) := by
 have hR : R ≤ w.heap.size := Nat.le_of_lt h.sh.rlt;refine (refDecide_by R (fun w2 q' id fd lf => Below R w w2 ∧ (∃ v' er', Two w2 R r M last v' er' l') ∧ ((bestOf (keyR q) lr l = none ∧ q' = enO ∧ id = 0 ∧ fd = false ∧ lf = []) ∨ ∃ n vp vf, n ∈ l ∧ bestOf (keyR q) lr l = some n ∧ q' = ndOut n vp vf ∧ id = n.x.id ∧ fd = true ∧ lf = n.x.lf ∧ Fo 89 R w2 vp n.x.lp ∧ Fo 60 R w2 vf n.x.lf)) (some ⟨r, 0, none⟩) q lr now w hR hr hl hk ?_).mono ?_
 ·intro w1 hb1
  have h1 := h.below hb1;have hR1 : R ≤ w1.heap.size := Nat.le_trans hR hb1.size;have hr1 := hr.below hb1 hR;refine (half_ref h1 q.v hr1 hl).mono ?_;rintro e w2 ⟨hk2, hs2, hb2, hr2, ⟨v', er', ht⟩, (⟨hno, rfl⟩ | ⟨n, ev, hn, hbo, hx, hef, rfl⟩)⟩
  ·exact ⟨enO, 0, false, [], ⟨_, _, _, rfl⟩, .inl (Rd.nil _ _ _), by simp [fsum], hr2, rfl, hk2, hs2, (hb1.mono hR).trans hb2, ⟨v', er', ht⟩, .inl ⟨hno, rfl, rfl, rfl, rfl⟩⟩
  ·obtain ⟨vp, vf, x⟩ := ev
   simp only at hx;subst hx;have hm : n.x ∈ er.map Ev.x := (by rw [h.eq];exact List.mem_map_of_mem hn);obtain ⟨e0, he0, hxe⟩ := List.mem_map.1 hm;have hc := h.rs.cost he0;rw [hxe] at hc;obtain ⟨ap, kp, hvp, -⟩ := hef.1.form;exact ⟨ndOut n vp vf, n.x.id, true, n.x.lf, ⟨_, _, _, hvp⟩, hef.2, by unfold It.cost at hc;omega, hr2, rfl, hk2, hs2, (hb1.mono hR).trans hb2, ⟨v', er', ht⟩, .inr ⟨n, vp, vf, hn, hbo, rfl, rfl, rfl, rfl, hef.1, hef.2⟩⟩
 ·rintro e w' (⟨hyes, -⟩ | ⟨-, w1, w2, q', id, fd, lf, hb1, hk2, ⟨hbw, ⟨v', er', ht⟩, hc⟩, hb, rfl⟩)
  ·rw [ha] at hyes
   cases hyes
  ·have hR2 : R ≤ w2.heap.size := Nat.le_trans hR hbw.size
   refine ⟨hbw.trans (hb.below (fun k hk => Nat.le_trans hR hk.1) hR2), Keeps22.of hb1 hk2 hb, ⟨v', er', ht.but22 hR hb⟩, ?_⟩
   rcases hc with ⟨hno, rfl, rfl, rfl, rfl⟩ | ⟨n, vp, vf, hn, hbo, rfl, rfl, rfl, rfl, o1, o2⟩
   ·exact .inl ⟨hno, rfl⟩
   ·exact .inr ⟨n, vp, vf, hn, hbo, o1.but22 hb hR hR2 (by decide) (by decide) (by decide), o2.but22 hb hR hR2 (by decide) (by decide) (by decide), rfl⟩
end
open Go.RowKit Go.Dr
def Pair21 (R r M : Nat) (last : Int) (q : Rq) (now : Int) (w : World) (e : Ending) (w1 : World) : Prop :=
 ∃ (k id : Int) (q0 : En) (lp lf : List F), (∃ a c, q0.vp = .slice a lp.length c) ∧ (∃ a c, q0.vf = .slice a lf.length c) ∧ e = .returned (dealV k id q0.key q0.vp q0.st q0.vf q0.body q0.asked q0.came) ∧ Below R w w1 ∧
  Calls Tryz.prog 13 #[Ptr r, q.val, .int .i64 now] w1 fun e w3 => ∃ vp' vf', e = .returned (dealV k id q0.key vp' q0.st vf' q0.body q0.asked q0.came) ∧ Fs w3.heap.size w3 q0.vp lp ∧ Fs w3.heap.size w3 q0.vf lf ∧ Fs w3.heap.size w3 vp' lp ∧ Fs w3.heap.size w3 vf' lf ∧ Below R w1 w3 ∧ ∃ v' er' l', Two w3 R r M last v' er' l' ∧ ∀ n ∈ l', n.x.id ≤ last
theorem decide_pair {w : World} {R r M : Nat} {last : Int} {v : Value} {er : List Ev} {l : List Nd} (h : Two w R r M last v er l) (hids : ∀ n ∈ l, n.x.id ≤ last) (q : Rq) (lr : List F) (now : Int) (hr : Fo 60 R w q.v lr) (hl : fsum lr ≤ 1099511627776) (hk : q.s.length + q.a.length + q.p.length ≤ 4611686018427387904) :
  Calls Tryz.prog 12 #[Ptr (R + 2), q.val, .int .i64 now] w (Pair21 R r M last q now w) := by
 have hR : R ≤ w.heap.size := Nat.le_of_lt h.rlt;refine (decide_first h hids q lr now hr hl hk).mono ?_;rintro e w1 ⟨hb1, hr1, (⟨ha, rfl, ht⟩ | ⟨ha, l', hh, hi, (⟨hno, rfl⟩ | ⟨n, vp, vf, hn, hbo, o1, o2, rfl⟩)⟩)⟩
 ·refine ⟨5, 0, enO, [], [], ⟨_, _, rfl⟩, ⟨_, _, rfl⟩, rfl, hb1, (decide_alone ht q lr now hr1 hl hk ha).mono ?_⟩
  rintro e w3 ⟨rfl, hb3⟩;exact ⟨_, _, rfl, Rd.nil _ _ _, Rd.nil _ _ _, Rd.nil _ _ _, Rd.nil _ _ _, hb3.mono (Nat.le_of_lt ht.rlt), v, er, l, ht.below hb3, hids⟩
 ·rw [deal_kind, if_neg (by rcases kind_lost lr q.m now enO.st enO.asked enO.came [] with hk | hk | ⟨hk, -⟩ <;> rw [hk] <;> decide)]
  refine ⟨_, 0, enO, [], [], ⟨_, _, rfl⟩, ⟨_, _, rfl⟩, rfl, hb1, (decide_then hh now hr1 hl hk ha).mono ?_⟩;rintro e w3 ⟨hb3, -, ⟨v', er', ht⟩, (⟨-, rfl⟩ | ⟨n, vp, vf, -, hbo, -⟩)⟩
  ·rw [deal_kind, if_neg (by rcases kind_lost lr q.m now enO.st enO.asked enO.came [] with hk | hk | ⟨hk, -⟩ <;> rw [hk] <;> decide)]
   exact ⟨_, _, rfl, Rd.nil _ _ _, Rd.nil _ _ _, Rd.nil _ _ _, Rd.nil _ _ _, hb3, v', er', l', ht, hi⟩
  ·rw [hno] at hbo
   cases hbo
 ·by_cases hkd : kindOf lr q.m now n.x.st n.x.asked n.x.came true n.x.lf = 1 ∨ kindOf lr q.m now n.x.st n.x.asked n.x.came true n.x.lf = 2
  ·rw [deal_kind, if_pos (by exact hkd)]
   obtain ⟨a1, c1, hvp, -⟩ := (Fs.own o1).form;obtain ⟨a2, c2, hvf, -⟩ := (Fs.own o2).form;refine ⟨_, n.x.id, ndOut n vp vf, n.x.lp, n.x.lf, ⟨_, _, hvp⟩, ⟨_, _, hvf⟩, rfl, hb1, (decide_then hh now hr1 hl hk ha).mono ?_⟩;rintro e w3 ⟨hb3, hk3, ⟨v', er', ht⟩, (⟨hno, -⟩ | ⟨n', vp', vf', -, hbo', hp', hf', rfl⟩)⟩
   ·rw [hno] at hbo
    cases hbo
   ·rw [hbo] at hbo'
    obtain rfl := Option.some.inj hbo';have hR3 : R ≤ w3.heap.size := Nat.le_of_lt ht.rlt;rw [deal_kind, if_pos (by exact hkd)];exact ⟨vp', vf', rfl, Fs.own (hk3.own o1 (by decide) (by decide) (by decide) (by decide) (by decide) (by decide)), Fs.own (hk3.own o2 (by decide) (by decide) (by decide) (by decide) (by decide) (by decide)), hp'.fs hR3, hf'.fs hR3, hb3, v', er', l', ht, hi⟩
  ·rw [deal_kind, if_neg (by exact hkd)]
   refine ⟨_, 0, enO, [], [], ⟨_, _, rfl⟩, ⟨_, _, rfl⟩, rfl, hb1, (decide_then hh now hr1 hl hk ha).mono ?_⟩;rintro e w3 ⟨hb3, hk3, ⟨v', er', ht⟩, (⟨hno, -⟩ | ⟨n', vp', vf', -, hbo', hp', hf', rfl⟩)⟩
   ·rw [hno] at hbo
    cases hbo
   ·rw [hbo] at hbo'
    obtain rfl := Option.some.inj hbo';rw [deal_kind, if_neg (by exact hkd)];exact ⟨_, _, rfl, Rd.nil _ _ _, Rd.nil _ _ _, Rd.nil _ _ _, Rd.nil _ _ _, hb3, v', er', l', ht, hi⟩
theorem same21_any (k id : Int) (key : Bytes) (st : Int) (body : Bytes) (asked came : Int) (a1 a2 a3 a4 : Option Addr) (c1 c2 c3 c4 : Nat) (lp lf : List F) (w : World) (h1 : Fs w.heap.size w (.slice a1 lp.length c1) lp) (h2 : Fs w.heap.size w (.slice a2 lf.length c2) lf) (h3 : Fs w.heap.size w (.slice a3 lp.length c3) lp) (h4 : Fs w.heap.size w (.slice a4 lf.length c4) lf) :
  Calls Tryz.prog 11 #[dealV k id key (.slice a1 lp.length c1) st (.slice a2 lf.length c2) body asked came, dealV k id key (.slice a3 lp.length c3) st (.slice a4 lf.length c4) body asked came] w fun e w' => e = .returned (.bool true) ∧ Below w.heap.size w w' := by
 have hS := fun w h1 h2 h3 h4 => refSame_eq ⟨key, .slice a1 lp.length c1, st, .slice a2 lf.length c2, body, asked, came⟩ (.slice a3 lp.length c3) (.slice a4 lf.length c4) lp lf w h1 h2 h3 h4
 simp only [En.val] at hS;have HS := Lib.hid hS;clear hS;simp only [dealV];obtain ⟨w1, e1⟩ : ∃ w1 : World, w1 = w.alloc (.cells #[.int .i64 k, .int .i64 id, S key, .slice a1 lp.length c1, .int .i64 st, .slice a2 lf.length c2, S body, .int .i64 asked, .int .i64 came] 38) := ⟨_, rfl⟩;obtain ⟨A, eA⟩ : ∃ A, A = w.heap.size := ⟨_, rfl⟩;have hs1 : w1.heap.size = A + 1 := (by rw [e1, eA];simp);have hA1 : Blk w1 A 38 #[.int .i64 k, .int .i64 id, S key, .slice a1 lp.length c1, .int .i64 st, .slice a2 lf.length c2, S body, .int .i64 asked, .int .i64 came] := (by rw [e1, eA];exact Blk.new _ _ _);obtain ⟨w0, e0⟩ : ∃ w0 : World, w0 = w1.alloc (.cells #[.int .i64 k, .int .i64 id, S key, .slice a3 lp.length c3, .int .i64 st, .slice a4 lf.length c4, S body, .int .i64 asked, .int .i64 came] 38) := ⟨_, rfl⟩;obtain ⟨Z, eZ⟩ : ∃ Z, Z = A + 1 := ⟨_, rfl⟩;have hA0 : Blk w0 A 38 #[.int .i64 k, .int .i64 id, S key, .slice a1 lp.length c1, .int .i64 st, .slice a2 lf.length c2, S body, .int .i64 asked, .int .i64 came] := (by rw [e0];exact hA1.alloc _);have hZ0 : Blk w0 Z 38 #[.int .i64 k, .int .i64 id, S key, .slice a3 lp.length c3, .int .i64 st, .slice a4 lf.length c4, S body, .int .i64 asked, .int .i64 came] := (by rw [e0, eZ, ← hs1];exact Blk.new _ _ _);have hb0 : Below w.heap.size w w0 := (by rw [e0];exact ((by rw [e1];exact (Below.refl _ _).alloc (Nat.le_refl _) _ : Below w.heap.size w w1)).alloc (by rw [hs1, eA];omega) _);have g1 := (h1.below hb0).mono hb0.size;have g2 := (h2.below hb0).mono hb0.size;have g3 := (h3.below hb0).mono hb0.size;have g4 := (h4.below hb0).mono hb0.size;have HA := Lib.hid eA;have HZ := Lib.hid eZ;have HW : Hid (w0 = (w.alloc (.cells #[.int .i64 k, .int .i64 id, S key, .slice a1 lp.length c1, .int .i64 st, .slice a2 lf.length c2, S body, .int .i64 asked, .int .i64 came] 38)).alloc (.cells #[.int .i64 k, .int .i64 id, S key, .slice a3 lp.length c3, .int .i64 st, .slice a4 lf.length c4, S body, .int .i64 asked, .int .i64 came] 38)) := (by show _ = _;rw [e0, e1]);clear e0 e1 eZ eA hs1 hA1 h1 h2 h3 h4;go_enter Tryz.func11, Tryz.ntmps11
 go_upto_region 1 with fail;rw [← HW.out, ← HA.out, ← HZ.out];obtain ⟨x0, x1, x2, x3, x4, x5, x6, x7, x8⟩ := hA0.c9;obtain ⟨y0, y1, y2, y3, y4, y5, y6, y7, y8⟩ := hZ0.c9;have u1 : w0.cell? ⟨A, 2 + 1, none⟩ = some (.slice a1 lp.length c1) := x3;have u2 : w0.cell? ⟨A, 2 + 2, none⟩ = some (.int .i64 st) := x4;have u3 : w0.cell? ⟨A, 2 + 3, none⟩ = some (.slice a2 lf.length c2) := x5;have u4 : w0.cell? ⟨A, 2 + 4, none⟩ = some (S body) := x6;have u5 : w0.cell? ⟨A, 2 + 5, none⟩ = some (.int .i64 asked) := x7;have u6 : w0.cell? ⟨A, 2 + 6, none⟩ = some (.int .i64 came) := x8;have v1 : w0.cell? ⟨Z, 2 + 1, none⟩ = some (.slice a3 lp.length c3) := y3;have v2 : w0.cell? ⟨Z, 2 + 2, none⟩ = some (.int .i64 st) := y4;have v3 : w0.cell? ⟨Z, 2 + 3, none⟩ = some (.slice a4 lf.length c4) := y5;have v4 : w0.cell? ⟨Z, 2 + 4, none⟩ = some (S body) := y6;have v5 : w0.cell? ⟨Z, 2 + 5, none⟩ = some (.int .i64 asked) := y7;have v6 : w0.cell? ⟨Z, 2 + 6, none⟩ = some (.int .i64 came) := y8;have q1 : (k == k) = true := (by simp);have q2 : (id == id) = true := (by simp);have hS := HS.out w0 g1 g2 g3 g4;go_wp2_with fail;refine hS.mono ?_;rintro e w2 ⟨rfl, hb2⟩;have hw2 := Bl.tr hb0 hb2;go_wp2;go_ret;exact ⟨rfl, hw2⟩
open Go.RowKit Go.Dr
theorem fok_nil : FOk [] := ⟨fun f hf => (by cases hf), by decide⟩
theorem bcellR {R : Nat} {w w' : World} (h : Below R w w') (b o : Nat) (hb : b < R) : w'.cell? ⟨b, o, none⟩ = w.cell? ⟨b, o, none⟩ := by
 simp only [World.cell?, h.block b hb]
theorem decides21_law (L : List Kv) (vs : Value) (A : List Qx) (va : Value) (now : Int) (w : World) (hL : Ks w.heap.size w vs L) (hok : ∀ k ∈ L, k.Ok) (hA : Qs w.heap.size w va A) (hqo : ∀ x ∈ A, x.Ok) :
  Calls Tryz.prog 3 #[vs, va, .int .i64 now] w fun e w' => e = .returned (.bool true) ∧ Below w.heap.size w w' := by
 obtain ⟨pa, pc, rfl, hm⟩ := hL.form;obtain ⟨pq, pqc, rfl, hmq⟩ := hA.form;have HOK := Lib.hid hok;have HQO := Lib.hid hqo;clear hok hqo;go_enter Tryz.func3, Tryz.ntmps3
 go_wp2_with fail;refine (awake21_any w).mono ?_;rintro e w1 ⟨rfl, hw1⟩;have hL1 := (hL.below hw1).mono hw1.size;have hA1 := (hA.below hw1).mono hw1.size;clear hL hA;go_wp2
 go_loopw [7] (fun i wr => ∃ j : Nat, i = .int .i64 j ∧ j ≤ A.length ∧ j ≤ 20 ∧ (∀ x ∈ A.take j, fsum x.l ≤ 16384) ∧ Below w1.heap.size w1 wr) (fun i _ => A.length - (intOf i).toNat)
 case atStart => exact ⟨0, rfl, Nat.zero_le _, by omega, by simp, Below.refl _ _⟩
 case round =>
  obtain ⟨j, rfl, hj, hj20, hsm, hbr⟩ := hrel;obtain ⟨wo, rfl⟩ : ∃ wo : World, wo = wr := ⟨_, rfl⟩;have hLr := hL1.below hbr;have hAr := hA1.below hbr;have hwr := Bl.tr hw1 hbr;have hbs := hbr.size;by_cases hlt : j < A.length
  ·by_cases h20 : j < 20
   ·have hsn : A.take (j + 1) = A.take j ++ [A[j]] := take_snoc A j hlt
    obtain ⟨b, off, rfl, hbb, c0, c1, c2, c3, c4⟩ := hAr.at j hlt;have hqf := hAr.2 A[j] (List.getElem_mem hlt);have hqo := HQO.out A[j] (List.getElem_mem hlt);obtain ⟨x, ex⟩ : ∃ x, x = A[j] := ⟨_, rfl⟩;rw [← ex] at c0 c1 c2 c3 c4 hqf hqo hsn;obtain ⟨⟨qm, qs, qa, qp, qv⟩, ql⟩ := x;obtain ⟨aq, cq, hqv, -⟩ := hqf.form;simp only at c0 c1 c2 c3 c4 hqf hqv hsn;subst hqv;have HSM := Lib.hid hsm;have HSN := Lib.hid hsn;clear hsm hsn ex;have hF := few21_any L (.slice pa L.length pc) ⟨qm, qs, qa, qp, .slice aq ql.length cq⟩ ql wo (hLr.mono hbs) HOK.out (hqf.mono hbs) hqo.2;simp only [Rq.val] at hF;go_wp2_with fail;refine hF.mono ?_;clear hF;rintro e w2 ⟨bb, rfl, hs2, hb2⟩;have hw2 := Bl.tr hwr hb2;have HS2 := Lib.hid hs2;clear hs2
    cases bb with
    | false =>
     go_wp2;go_ret;exact ⟨rfl, hw2⟩
    | true =>
     have HNX : Hid (∀ x ∈ A.take (j + 1), fsum x.l ≤ 16384) := fun x hx => by
      rw [HSN.out] at hx
      rcases List.mem_append.1 hx with hx | hx
      ·exact HSM.out x hx
      ·rw [List.mem_singleton.1 hx];exact (HS2.out rfl).1
     clear c0 c1 c2 c3 c4;go_wp2
     go_roundw
     case rel => exact ⟨j + 1, by go_num, by omega, by omega, HNX.out, hbr.trans (hb2.mono hbs)⟩
     case measure => (first | (simp [intOf];done) | (simp [intOf];omega))
   ·obtain rfl : j = 20 := by omega
    clear h20;have HSM := Lib.hid hsm;have HSM : Hid (∀ x ∈ A.take 20, fsum x.l ≤ 16384) := fun x hx => HSM.out x hx
    clear hsm;have hF := few21_any L (.slice pa L.length pc) ⟨[], [], [], [], .slice none 0 0⟩ [] wo (hLr.mono hbs) HOK.out (Rd.nil _ _ _) fok_nil;simp only [Rq.val] at hF;go_wp2_with fail;refine hF.mono ?_;clear hF;rintro e w3 ⟨b, rfl, hsm, hb3⟩;have hL3 := ((hLr.mono hbs).below hb3).mono hb3.size;have hA3 := ((hAr.mono hbs).below hb3).mono hb3.size;have hw3 := Bl.tr hwr hb3;have HSK := Lib.hid hsm;clear hsm hb3 hLr hAr hwr hbr hbs
    cases b with
    | false =>
     go_wp2;go_ret;exact ⟨rfl, hw3⟩
    | true =>
     have HSL := Lib.hid (HSK.out rfl).2;clear HSK;have hLay := lay21_any L (.slice pa L.length pc) w3 hL3 HSL.out;go_wp2_with fail;refine hLay.mono ?_;clear hLay;rintro e w4 ⟨r0, last, v, er, l, rfl, hT, hids, hla, hla2, -, hb4⟩;have hA4 := hA3.below hb4;have hw4 := Bl.tr hw3 hb4;obtain ⟨R, eR⟩ : ∃ R, R = w3.heap.size := ⟨_, rfl⟩;rw [← eR] at hT hA4;have hRw : w.heap.size ≤ R := (by rw [eR];exact hw3.size);rw [← eR];clear eR hb4 hA3 hL3 hw3 hla hla2 HSL;have HIDS := Lib.hid hids;clear hids;go_wp2
     go_loopw [11] (fun i wr => ∃ (j : Nat) (v : Value) (er : List Ev) (l : List Nd), i = .int .i64 j ∧ j ≤ A.length ∧ j ≤ 20 ∧ Two wr R r0 20000 last v er l ∧ (∀ n ∈ l, n.x.id ≤ last) ∧ Below R w4 wr) (fun i _ => A.length - (intOf i).toNat)
     case atStart => exact ⟨0, v, er, l, rfl, Nat.zero_le _, by omega, hT, HIDS.out, Below.refl _ _⟩
     case round =>
      obtain ⟨j, v, er, l, rfl, hj, hj20, hT, hids, hbr⟩ := hrel;obtain ⟨wo, rfl⟩ : ∃ wo : World, wo = wr := ⟨_, rfl⟩;have HID2 := Lib.hid hids;clear hids;have hAr := hA4.below hbr;have hwr : Below w.heap.size w wo := hw4.trans (hbr.mono hRw);by_cases hlt : j < A.length
      ·by_cases h20 : j < 20
       ·obtain ⟨b, off, rfl, hbb, c0, c1, c2, c3, c4⟩ := hAr.at j hlt
        have hqf := hAr.2 A[j] (List.getElem_mem hlt);have hqo := HQO.out A[j] (List.getElem_mem hlt);have hsmj := HSM.out A[j] (List.mem_take_iff_getElem.2 ⟨j, by omega, rfl⟩);obtain ⟨x, ex⟩ : ∃ x, x = A[j] := ⟨_, rfl⟩;rw [← ex] at c0 c1 c2 c3 c4 hqf hqo hsmj;obtain ⟨⟨qm, qs, qa, qp, qv⟩, ql⟩ := x;obtain ⟨aq, cq, hqv, -⟩ := hqf.form;simp only at c0 c1 c2 c3 c4 hqf hqv hsmj;subst hqv;have g0 : decide ((0 : Int) ≤ (j : Int)) = true := (by simp);have g1 : decide ((j : Int) < (A.length : Int)) = true := (by simp;omega);have g1' : decide (j < A.length) = true := (by simp;omega)
        have hk2 : qs.length + qa.length + qp.length ≤ 4611686018427387904 := by
         have h1 : qs.length ≤ 140737488351232 := hqo.1.2.1;have h2 : qa.length ≤ 140737488351232 := hqo.1.2.2.1;have h3 : qp.length ≤ 140737488351232 := hqo.1.2.2.2;omega
        have hRo : R ≤ wo.heap.size := Nat.le_of_lt hT.rlt;have hP := decide_pair (hT.below (Below.refl _ _).drew) HID2.out ⟨qm, qs, qa, qp, .slice aq ql.length cq⟩ ql now (.inl (Rd.below hqf (Below.refl _ _).drew)) (by omega) hk2;unfold Pair21 at hP;simp only [Rq.val] at hP;clear hqo hk2 hsmj HOK HQO;go_wp2_with fail;refine wp_region_held_drew (S := (fun wx => wx.cell? ⟨b, off + j * 5, none⟩ = some (S qm) ∧ wx.cell? ⟨b, off + j * 5 + 1, none⟩ = some (S qs) ∧ wx.cell? ⟨b, off + j * 5 + 2, none⟩ = some (S qa) ∧ wx.cell? ⟨b, off + j * 5 + 3, none⟩ = some (S qp) ∧ wx.cell? ⟨b, off + j * 5 + 4, none⟩ = some (.slice aq ql.length cq))) (by kernel_rfl) ⟨c0, c1, c2, c3, c4⟩ (fun hH => ?_);refine tA 0 ?_ ?_ hH ?_;rotate_left;(intro w h;go_simp;try rfl);simp only [PT];refine tA 1 ?_ ?_ hH ?_;rotate_left;(intro w h;go_simp;try rfl);simp only [PT];refine tA 2 ?_ ?_ hH ?_;rotate_left;(intro w h;go_simp;try rfl);simp only [PT];refine tA 3 ?_ ?_ hH ?_;rotate_left;(intro w h;go_simp;try rfl);simp only [PT];refine tA 4 ?_ ?_ hH ?_;rotate_left;(intro w h;go_simp;try rfl);simp only [PT];refine tA 5 ?_ ?_ hH ?_;rotate_left;(intro w h;go_simp;try rfl);simp only [PT];refine tA 7 ?_ ?_ hH ?_;rotate_left;(intro w h;go_simp;try rfl);simp only [PT];refine tA 8 ?_ ?_ hH ?_;rotate_left;(intro w h;go_simp;try rfl);simp only [PT];refine tA 9 ?_ ?_ hH ?_;rotate_left;(intro w h;go_simp;try rfl);simp only [PT];refine tA 10 ?_ ?_ hH ?_;rotate_left;(intro w h;go_simp;try rfl);simp only [PT];refine tA 11 ?_ ?_ hH ?_;rotate_left;(intro w h;go_simp;try rfl);simp only [PT];refine tA 12 ?_ ?_ hH ?_;rotate_left;(intro w h;go_simp;try rfl);simp only [PT];refine tC 6 (fun K hK => ?_);go_simp
        (with_reducible refine hP.mono ?_);rintro e wp ⟨k, id, ⟨key0, vp0, st0, vf0, body0, as0, ca0⟩, lp, lf, ⟨a1, cc1, hvp⟩, ⟨a2, cc2, hvf⟩, rfl, hbp, href⟩;simp only at hvp hvf href ⊢;subst hvp hvf;replace hbp := (Below.refl R wo).drew.trans hbp
        refine hK.out _ _ ⟨(bcellR hbp b (off + j * 5) hbb).trans c0, (bcellR hbp b (off + j * 5 + 1) hbb).trans c1, (bcellR hbp b (off + j * 5 + 2) hbb).trans c2, (bcellR hbp b (off + j * 5 + 3) hbb).trans c3, (bcellR hbp b (off + j * 5 + 4) hbb).trans c4⟩ (fun hH => ?_);clear hK K;(try simp only [PT]);refine tC 13 (fun K hK => ?_);go_simp
        (with_reducible refine href.mono ?_);rintro e wq ⟨vp', vf', rfl, s1, s2, s3, s4, hbq, v', er', l', hTq, hidq⟩;obtain ⟨a3, cc3, rfl, -⟩ := s3.form;obtain ⟨a4, cc4, rfl, -⟩ := s4.form
        refine hK.out _ _ ⟨(bcellR (hbp.trans hbq) b (off + j * 5) hbb).trans c0, (bcellR (hbp.trans hbq) b (off + j * 5 + 1) hbb).trans c1, (bcellR (hbp.trans hbq) b (off + j * 5 + 2) hbb).trans c2, (bcellR (hbp.trans hbq) b (off + j * 5 + 3) hbb).trans c3, (bcellR (hbp.trans hbq) b (off + j * 5 + 4) hbb).trans c4⟩ (fun hH => ?_);clear hK K;(try simp only [PT]);refine tC 14 (fun K hK => ?_);go_simp
        (with_reducible refine (same21_any k id key0 st0 body0 as0 ca0 a1 a2 a3 a4 cc1 cc2 cc3 cc4 lp lf wq s1 s2 s3 s4).mono ?_);rintro e wz ⟨rfl, hbz⟩
        refine hK.out _ _ ⟨(bcellR ((hbp.trans hbq).trans (hbz.mono (Nat.le_of_lt hTq.rlt))) b (off + j * 5) hbb).trans c0, (bcellR ((hbp.trans hbq).trans (hbz.mono (Nat.le_of_lt hTq.rlt))) b (off + j * 5 + 1) hbb).trans c1, (bcellR ((hbp.trans hbq).trans (hbz.mono (Nat.le_of_lt hTq.rlt))) b (off + j * 5 + 2) hbb).trans c2, (bcellR ((hbp.trans hbq).trans (hbz.mono (Nat.le_of_lt hTq.rlt))) b (off + j * 5 + 3) hbb).trans c3, (bcellR ((hbp.trans hbq).trans (hbz.mono (Nat.le_of_lt hTq.rlt))) b (off + j * 5 + 4) hbb).trans c4⟩ (fun hH => ?_);clear hK K;(try simp only [PT]);refine tA 15 ?_ ?_ hH ?_;rotate_left;(intro w h;go_simp;try rfl);simp only [PT];(try simp only [PT]);refine wpAnyH_done (by kernel_rfl) ?_ _;have hTz := hTq.below hbz;have hbf : Below R w4 wz := ((hbr.trans hbp).trans hbq).trans (hbz.mono (Nat.le_of_lt hTq.rlt));have HID3 := Lib.hid hidq;clear hidq s1 s2 s3 s4 href hP;go_wp2
        go_roundw
        case rel => exact ⟨j + 1, v', er', l', by go_num, by omega, by omega, hTz, HID3.out, hbf⟩
        case measure => (first | (simp [intOf];done) | (simp [intOf];omega))
       ·obtain rfl : j = 20 := by omega
        clear h20;go_wp2;go_ret;exact ⟨rfl, hwr⟩
      ·obtain rfl : j = A.length := by omega
       clear hlt;go_wp2;go_ret;exact ⟨rfl, hwr⟩
  ·obtain rfl : j = A.length := by omega
   clear hlt;have HSM := Lib.hid hsm;have HSM : Hid (∀ x ∈ A.take 20, fsum x.l ≤ 16384) := fun x hx => HSM.out x (by rw [List.take_length];exact List.mem_of_mem_take hx)
   clear hsm;have hF := few21_any L (.slice pa L.length pc) ⟨[], [], [], [], .slice none 0 0⟩ [] wo (hLr.mono hbs) HOK.out (Rd.nil _ _ _) fok_nil;simp only [Rq.val] at hF;go_wp2_with fail;refine hF.mono ?_;clear hF;rintro e w3 ⟨b, rfl, hsm, hb3⟩;have hL3 := ((hLr.mono hbs).below hb3).mono hb3.size;have hA3 := ((hAr.mono hbs).below hb3).mono hb3.size;have hw3 := Bl.tr hwr hb3;have HSK := Lib.hid hsm;clear hsm hb3 hLr hAr hwr hbr hbs
   cases b with
   | false =>
    go_wp2;go_ret;exact ⟨rfl, hw3⟩
   | true =>
    have HSL := Lib.hid (HSK.out rfl).2;clear HSK;have hLay := lay21_any L (.slice pa L.length pc) w3 hL3 HSL.out;go_wp2_with fail;refine hLay.mono ?_;clear hLay;rintro e w4 ⟨r0, last, v, er, l, rfl, hT, hids, hla, hla2, -, hb4⟩;have hA4 := hA3.below hb4;have hw4 := Bl.tr hw3 hb4;obtain ⟨R, eR⟩ : ∃ R, R = w3.heap.size := ⟨_, rfl⟩;rw [← eR] at hT hA4;have hRw : w.heap.size ≤ R := (by rw [eR];exact hw3.size);rw [← eR];clear eR hb4 hA3 hL3 hw3 hla hla2 HSL;have HIDS := Lib.hid hids;clear hids;go_wp2
    go_loopw [11] (fun i wr => ∃ (j : Nat) (v : Value) (er : List Ev) (l : List Nd), i = .int .i64 j ∧ j ≤ A.length ∧ j ≤ 20 ∧ Two wr R r0 20000 last v er l ∧ (∀ n ∈ l, n.x.id ≤ last) ∧ Below R w4 wr) (fun i _ => A.length - (intOf i).toNat)
    case atStart => exact ⟨0, v, er, l, rfl, Nat.zero_le _, by omega, hT, HIDS.out, Below.refl _ _⟩
    case round =>
     obtain ⟨j, v, er, l, rfl, hj, hj20, hT, hids, hbr⟩ := hrel;obtain ⟨wo, rfl⟩ : ∃ wo : World, wo = wr := ⟨_, rfl⟩;have HID2 := Lib.hid hids;clear hids;have hAr := hA4.below hbr;have hwr : Below w.heap.size w wo := hw4.trans (hbr.mono hRw);by_cases hlt : j < A.length
     ·by_cases h20 : j < 20
      ·obtain ⟨b, off, rfl, hbb, c0, c1, c2, c3, c4⟩ := hAr.at j hlt
       have hqf := hAr.2 A[j] (List.getElem_mem hlt);have hqo := HQO.out A[j] (List.getElem_mem hlt);have hsmj := HSM.out A[j] (List.mem_take_iff_getElem.2 ⟨j, by omega, rfl⟩);obtain ⟨x, ex⟩ : ∃ x, x = A[j] := ⟨_, rfl⟩;rw [← ex] at c0 c1 c2 c3 c4 hqf hqo hsmj;obtain ⟨⟨qm, qs, qa, qp, qv⟩, ql⟩ := x;obtain ⟨aq, cq, hqv, -⟩ := hqf.form;simp only at c0 c1 c2 c3 c4 hqf hqv hsmj;subst hqv;have g0 : decide ((0 : Int) ≤ (j : Int)) = true := (by simp);have g1 : decide ((j : Int) < (A.length : Int)) = true := (by simp;omega);have g1' : decide (j < A.length) = true := (by simp;omega)
       have hk2 : qs.length + qa.length + qp.length ≤ 4611686018427387904 := by
        have h1 : qs.length ≤ 140737488351232 := hqo.1.2.1;have h2 : qa.length ≤ 140737488351232 := hqo.1.2.2.1;have h3 : qp.length ≤ 140737488351232 := hqo.1.2.2.2;omega
       have hRo : R ≤ wo.heap.size := Nat.le_of_lt hT.rlt;have hP := decide_pair (hT.below (Below.refl _ _).drew) HID2.out ⟨qm, qs, qa, qp, .slice aq ql.length cq⟩ ql now (.inl (Rd.below hqf (Below.refl _ _).drew)) (by omega) hk2;unfold Pair21 at hP;simp only [Rq.val] at hP;clear hqo hk2 hsmj HOK HQO;go_wp2_with fail;refine wp_region_held_drew (S := (fun wx => wx.cell? ⟨b, off + j * 5, none⟩ = some (S qm) ∧ wx.cell? ⟨b, off + j * 5 + 1, none⟩ = some (S qs) ∧ wx.cell? ⟨b, off + j * 5 + 2, none⟩ = some (S qa) ∧ wx.cell? ⟨b, off + j * 5 + 3, none⟩ = some (S qp) ∧ wx.cell? ⟨b, off + j * 5 + 4, none⟩ = some (.slice aq ql.length cq))) (by kernel_rfl) ⟨c0, c1, c2, c3, c4⟩ (fun hH => ?_);refine tA 0 ?_ ?_ hH ?_;rotate_left;(intro w h;go_simp;try rfl);simp only [PT];refine tA 1 ?_ ?_ hH ?_;rotate_left;(intro w h;go_simp;try rfl);simp only [PT];refine tA 2 ?_ ?_ hH ?_;rotate_left;(intro w h;go_simp;try rfl);simp only [PT];refine tA 3 ?_ ?_ hH ?_;rotate_left;(intro w h;go_simp;try rfl);simp only [PT];refine tA 4 ?_ ?_ hH ?_;rotate_left;(intro w h;go_simp;try rfl);simp only [PT];refine tA 5 ?_ ?_ hH ?_;rotate_left;(intro w h;go_simp;try rfl);simp only [PT];refine tA 7 ?_ ?_ hH ?_;rotate_left;(intro w h;go_simp;try rfl);simp only [PT];refine tA 8 ?_ ?_ hH ?_;rotate_left;(intro w h;go_simp;try rfl);simp only [PT];refine tA 9 ?_ ?_ hH ?_;rotate_left;(intro w h;go_simp;try rfl);simp only [PT];refine tA 10 ?_ ?_ hH ?_;rotate_left;(intro w h;go_simp;try rfl);simp only [PT];refine tA 11 ?_ ?_ hH ?_;rotate_left;(intro w h;go_simp;try rfl);simp only [PT];refine tA 12 ?_ ?_ hH ?_;rotate_left;(intro w h;go_simp;try rfl);simp only [PT];refine tC 6 (fun K hK => ?_);go_simp
       (with_reducible refine hP.mono ?_);rintro e wp ⟨k, id, ⟨key0, vp0, st0, vf0, body0, as0, ca0⟩, lp, lf, ⟨a1, cc1, hvp⟩, ⟨a2, cc2, hvf⟩, rfl, hbp, href⟩;simp only at hvp hvf href ⊢;subst hvp hvf;replace hbp := (Below.refl R wo).drew.trans hbp
       refine hK.out _ _ ⟨(bcellR hbp b (off + j * 5) hbb).trans c0, (bcellR hbp b (off + j * 5 + 1) hbb).trans c1, (bcellR hbp b (off + j * 5 + 2) hbb).trans c2, (bcellR hbp b (off + j * 5 + 3) hbb).trans c3, (bcellR hbp b (off + j * 5 + 4) hbb).trans c4⟩ (fun hH => ?_);clear hK K;(try simp only [PT]);refine tC 13 (fun K hK => ?_);go_simp
       (with_reducible refine href.mono ?_);rintro e wq ⟨vp', vf', rfl, s1, s2, s3, s4, hbq, v', er', l', hTq, hidq⟩;obtain ⟨a3, cc3, rfl, -⟩ := s3.form;obtain ⟨a4, cc4, rfl, -⟩ := s4.form
       refine hK.out _ _ ⟨(bcellR (hbp.trans hbq) b (off + j * 5) hbb).trans c0, (bcellR (hbp.trans hbq) b (off + j * 5 + 1) hbb).trans c1, (bcellR (hbp.trans hbq) b (off + j * 5 + 2) hbb).trans c2, (bcellR (hbp.trans hbq) b (off + j * 5 + 3) hbb).trans c3, (bcellR (hbp.trans hbq) b (off + j * 5 + 4) hbb).trans c4⟩ (fun hH => ?_);clear hK K;(try simp only [PT]);refine tC 14 (fun K hK => ?_);go_simp
       (with_reducible refine (same21_any k id key0 st0 body0 as0 ca0 a1 a2 a3 a4 cc1 cc2 cc3 cc4 lp lf wq s1 s2 s3 s4).mono ?_);rintro e wz ⟨rfl, hbz⟩
       refine hK.out _ _ ⟨(bcellR ((hbp.trans hbq).trans (hbz.mono (Nat.le_of_lt hTq.rlt))) b (off + j * 5) hbb).trans c0, (bcellR ((hbp.trans hbq).trans (hbz.mono (Nat.le_of_lt hTq.rlt))) b (off + j * 5 + 1) hbb).trans c1, (bcellR ((hbp.trans hbq).trans (hbz.mono (Nat.le_of_lt hTq.rlt))) b (off + j * 5 + 2) hbb).trans c2, (bcellR ((hbp.trans hbq).trans (hbz.mono (Nat.le_of_lt hTq.rlt))) b (off + j * 5 + 3) hbb).trans c3, (bcellR ((hbp.trans hbq).trans (hbz.mono (Nat.le_of_lt hTq.rlt))) b (off + j * 5 + 4) hbb).trans c4⟩ (fun hH => ?_);clear hK K;(try simp only [PT]);refine tA 15 ?_ ?_ hH ?_;rotate_left;(intro w h;go_simp;try rfl);simp only [PT];(try simp only [PT]);refine wpAnyH_done (by kernel_rfl) ?_ _;have hTz := hTq.below hbz;have hbf : Below R w4 wz := ((hbr.trans hbp).trans hbq).trans (hbz.mono (Nat.le_of_lt hTq.rlt));have HID3 := Lib.hid hidq;clear hidq s1 s2 s3 s4 href hP;go_wp2
       go_roundw
       case rel => exact ⟨j + 1, v', er', l', by go_num, by omega, by omega, hTz, HID3.out, hbf⟩
       case measure => (first | (simp [intOf];done) | (simp [intOf];omega))
      ·exfalso;omega
     ·obtain rfl : j = A.length := by omega
      clear hlt;go_wp2;go_ret;exact ⟨rfl, hwr⟩
end Go.Proofs.YtahapblgmehngaaGreatDoor
namespace Go.Proofs.YtahapblgmehngaaGreatDoor.cDealDecides
open Go.ChangeShapes Go.WideShapes Go.ChangeAt Go.RowKit Go.Dr Go.ChangeMaps
theorem own : ownKnob Tryz.prog.godebug = none := by kernel_rfl
theorem laidOut : laidOutB Tryz.prog = true := by kernel_rfl
theorem readable : (Tryz.f3.params.toList.all fun t => Tryz.prog.readableRec t && decide (t < Tryz.prog.types.size)) = true := by kernel_rfl
theorem contract (H : Type) (enc : TypeId × Value → H) (W : World) (base : Nat) (args : Array Value) (ds gs : List (DataW H)) (before : List MemPlace)
  (hval : ∀ (j : Nat) t v, Tryz.f3.params[j]? = some t → args[j]? = some v → Value.okWide Tryz.prog W .any base t v)
  (hW : DataW.Whole enc Tryz.prog Tryz.f3.params.toList Rows.dealDecidesSpec.vars false W args.toList ds gs before)
  (hw : (DataW.weightsEach Tryz.prog (Tryz.f3.params.toList ++ (OpenSpec.ofChange Rows.dealDecidesSpec).bare.plain.varTypes Tryz.prog) (ds ++ gs)).all (· ≤ reachBytes) = true) :
  Calls Tryz.prog 3 args W fun e W' => ∃ v, e = .returned v ∧ Rows.dealDecidesSpec.post enc Tryz.prog Tryz.f3 false true false false W args v W' := by
 have hW' := hW
 obtain ⟨p, q, hA, hV, rfl, -, -⟩ := hW;rw [Tryz.params3] at hA hval hw;obtain ⟨v0, vs0, d0, ds0, p0, q0, hargs, rfl, rfl, h0, r0⟩ := trodAll_cons hA;obtain ⟨v1, vs1, d1, ds1, p1, q1, rfl, rfl, rfl, h1, r1⟩ := trodAll_cons r0;obtain ⟨v2, vs2, d2, ds2, p2, q2, rfl, rfl, rfl, h2, r2⟩ := trodAll_cons r1;obtain ⟨rfl, rfl, rfl⟩ := trodAll_nil r2;obtain rfl : args = #[v0, v1, v2] := by cases args;simp_all
 obtain ⟨rfl, rfl⟩ := trodVars_none hV;have hvt : (OpenSpec.ofChange Rows.dealDecidesSpec).bare.plain.varTypes Tryz.prog = [] := rfl;rw [hvt] at hw;simp only [List.cons_append, List.nil_append, List.append_nil, DataW.weightsEach, List.all_append, Bool.and_eq_true] at hw;obtain ⟨l0, s0, k0⟩ := open_Ks Tryz.underlying22 Tryz.underlying48 (by kernel_rfl) ⟨rfl, rfl, rfl, rfl, rfl, rfl⟩ ⟨rfl, rfl, rfl, rfl, rfl, rfl⟩ (by kernel_rfl) (by kernel_rfl) (by kernel_rfl) Tryz.underlying28 (by kernel_rfl) (by kernel_rfl) ⟨rfl, rfl, rfl, rfl, rfl⟩ ftF Tryz.underlying3 Tryz.underlying2 (hval 0 22 v0 rfl rfl) h0 hw.1;obtain ⟨l1, s1, k1⟩ := open_Qs Tryz.underlying23 Tryz.underlying28 (by kernel_rfl) (by kernel_rfl) ⟨rfl, rfl, rfl, rfl, rfl⟩ ftF (hval 1 23 v1 rfl rfl) h1 hw.2.1;obtain ⟨n2, rfl, -, -, wf2⟩ := open_int Tryz.underlying2 (hval 2 2 v2 rfl rfl) h2;have b2 := wf_int wf2;refine (decides21_law l0 _ l1 _ n2 _ s0 k0 s1 k1).mono fun e W' ⟨he, hb⟩ => ?_
 subst he;exact ⟨_, rfl, law_post hW' rfl rfl rfl Tryz.underlying4 laidOut readable hb⟩
theorem laid_met (os : Os) : laidMetH Tryz.prog Rows.dealDecidesRow.laid ((World.laidAll Tryz.prog os Rows.dealDecidesRow.laid).forCall (fun _ _ => 0) ⟨#[], #[.slice none 0 0, .slice none 0 0, .int .i64 0], []⟩).memory := by
 rw [MakeChecks.laidMetH_plain _ _ _ (by kernel_rfl)];exact laidMet_laidAll _ (by kernel_rfl) (by kernel_rfl)
theorem reads (os : Os) {H : Type} (enc : TypeId × Value → H) : ∃ places, DataW.whole enc Tryz.prog ((World.laidAll Tryz.prog os Rows.dealDecidesRow.laid).forCall (fun _ _ => 0) ⟨#[], #[.slice none 0 0, .slice none 0 0, .int .i64 0], []⟩).memory Tryz.f3.params.toList Rows.dealDecidesSpec.vars false (#[.slice none 0 0, .slice none 0 0, .int .i64 0] : Array Value).toList 8 = some ([.nil, .nil, .lit (.int .i64 0)], [], places) :=
 ⟨[], by kernel_rfl⟩
theorem lifted (os : Os) (started : os.Started) (H : Type) (enc : TypeId × Value → H) (F : Stop.Interp) :
  ReturnsInHanded {} Tryz.checked os 3 .any ((OpenSpec.ofChange Rows.dealDecidesSpec).preRow enc Tryz.prog Tryz.f3 Rows.dealDecidesRow.domain false Rows.dealDecidesRow.laid) (((OpenSpec.ofChange Rows.dealDecidesSpec).at F).post enc Tryz.prog Tryz.f3 false true false false) := by
 obtain ⟨places, hx⟩ := reads os enc
 refine returnsInHanded_of_row (C := Tryz.checked) (s := OpenSpec.ofChange Rows.dealDecidesSpec) own started (by kernel_rfl) Tryz.func3
  (witness_row_at (enc := enc) (C := Tryz.checked) false (World.laidAll Tryz.prog os Rows.dealDecidesRow.laid) #[.slice none 0 0, .slice none 0 0, .int .i64 0] (World.laidAll_os _ _ _) (by kernel_rfl) (by kernel_rfl) (by kernel_rfl)
   (OpenSpec.preRow_of_cond 8 hx (by kernel_rfl) (fun k hk => by cases hk) (by kernel_rfl) (laid_met os))) ?_
 intro W base args ds gs before hval hW _ _ hw _ _ _;exact contract H enc W base args ds gs before hval hW hw
theorem said : Rows.DealDecidesSaid :=
 OpenClaim.holds_of_cond 3 Tryz.f3 rfl rfl rfl rfl rfl rfl rfl ⟨rfl, rfl, rfl, rfl, rfl⟩ rfl rfl rfl rfl rfl (by kernel_rfl) Tryz.func3 (by kernel_rfl)
  (of_decide_eq_true (by kernel_rfl)) (by unfold Func.isWrapper;first | (rw [if_pos (by decide +kernel)];kernel_rfl) | (rw [if_neg (by decide +kernel)];exact ⟨rfl, rfl⟩))
  (fun os started H enc _ F => by rw [OpenClaim.pre_eq_preRow];exact lifted os started H enc F)
theorem plain (f : FuncId) (fn : Func) (hf : Tryz.pinned.checked.prog.funcNamed Rows.dealDecidesRow.func = some f) (hfn : Tryz.pinned.checked.prog.funcs[f]? = some fn) :
  false = Tryz.pinned.checked.prog.looks [] ∧ ∀ (j : Nat) t, fn.params[j]? = some t → Tryz.pinned.checked.prog.wantsStandIn t = false := by
 obtain rfl : f = 3 := Option.some.inj ((show Tryz.prog.funcNamed Rows.dealDecidesRow.func = some 3 by kernel_rfl).symm.trans hf) |>.symm
 obtain rfl : fn = Tryz.f3 := (Option.some.inj (Tryz.func3.symm.trans hfn)).symm;refine ⟨by kernel_rfl, fun j t ht => ?_⟩;have hall : (Tryz.f3.params.toList.all fun u => !Tryz.prog.wantsStandIn u) = true := (by kernel_rfl);have hm : t ∈ Tryz.f3.params.toList := (by simpa using Array.mem_of_getElem? ht);exact (show Tryz.prog.wantsStandIn t = false by simpa using List.all_eq_true.1 hall t hm)
end Go.Proofs.YtahapblgmehngaaGreatDoor.cDealDecides
namespace Go.Proofs.YtahapblgmehngaaGreatDoor
theorem DealDecides_holds : Rows.DealDecidesCardSaid :=
 Claim7.holds_tied_plain_at .later [] _ _ _ _ cDealDecides.said (fun _ h => by cases h) (by kernel_rfl) (fun _ h => by cases h) dealDecides_row_tie rfl ⟨rfl, rfl⟩ (by kernel_rfl) rfl cDealDecides.plain (by kernel_rfl)
end Go.Proofs.YtahapblgmehngaaGreatDoor
