
/- The shelf and the document's shelf, side by side: Put and Find of both. -/
import Derived.Test.YtnflihjgbkocnaaDoorShj
import Derived.Test.YtnflihjgbkocnaaDoorRs5
import Derived.Test.YtnflihjgbkocnaaDoorShq8
import Derived.Test.YtnflihjgbkocnaaDoorShk
namespace Go.Proofs.YtnflihjgbkocnaaDoor
open Go.RowKit Go.Dr

/-- What is no shelf's own stays as it is. -/
def Keeps (w w' : World) : Prop := ∀ (b : Nat) (t : TypeId) (xs : Array Value), t ≠ 60 → t ≠ 57 → t ≠ 32 → Blk w b t xs → Blk w' b t xs
set_option linter.unusedSimpArgs false in
set_option linter.unusedVariables false in
set_option linter.unnecessarySimpa false in
theorem Keeps.refl (w : World) : Keeps w w := fun _ _ _ _ _ _ h => h
set_option linter.unusedSimpArgs false in
set_option linter.unusedVariables false in
set_option linter.unnecessarySimpa false in
theorem Keeps.trans {a b c : World} (h : Keeps a b) (k : Keeps b c) : Keeps a c := fun g t xs h1 h2 h3 hb => k g t xs h1 h2 h3 (h g t xs h1 h2 h3 hb)
set_option linter.unusedSimpArgs false in
set_option linter.unusedVariables false in
set_option linter.unnecessarySimpa false in
theorem Keeps.below {w w' : World} (h : Below w.heap.size w w') : Keeps w w' := fun _ _ _ _ _ _ hb => hb.on h
set_option linter.unusedSimpArgs false in
set_option linter.unusedVariables false in
set_option linter.unnecessarySimpa false in
theorem Keeps.but_s {fb rb : Nat} {w w' : World} {s R m : Nat} {most last : Int} {l : List Nd} (hs : Sh fb rb w s R m most last l) (h : But (Foot s R m l) w w') : Keeps w w' := fun _ _ _ h1 h2 _ hb => hb.but h (hs.off hb h1 h2)
set_option linter.unusedSimpArgs false in
set_option linter.unusedVariables false in
set_option linter.unnecessarySimpa false in
theorem Keeps.but_r {w w' : World} {r : Nat} {xs : Array Value} (hr : Blk w r 32 xs) (h : But (fun k => k = r) w w') : Keeps w w' := fun g t ys _ _ h3 hb => hb.but h fun e => by
  have e : g = r := e
  subst e
  unfold Blk at hb hr
  rw [hr] at hb
  simp only [Option.some.injEq, Obj.cells.injEq] at hb
  exact h3 hb.2.1.symm
/-- Both shelves behind a step. -/
def After (R r M : Nat) (w : World) (lo hi : Int) (Q : List Nd → Prop) (w' : World) : Prop := ∃ last v er l', Two w' R r M last v er l' ∧ (∀ n ∈ l', n.x.id ≤ last) ∧ lo ≤ last ∧ last ≤ hi ∧ Q l' ∧ Keeps w w' ∧ Below R w w'
/-- No other entries than these, but for one that was put; that one is there, if it has room. -/
def Laid (M : Nat) (l : List Nd) (q : En) (lp lf : List F) (l' : List Nd) : Prop := (∀ n ∈ l', n ∈ l ∨ ∃ i, n.x = It.of i q lp lf) ∧ (costF q lp lf ≤ M → ∃ n ∈ l', ∃ i, n.x = It.of i q lp lf)
def Less (l l' : List Nd) : Prop := ∀ n ∈ l', n ∈ l
set_option linter.unusedSimpArgs false in
set_option linter.unusedVariables false in
set_option linter.unnecessarySimpa false in
theorem roomOf_mem {k : Nat} {l : List Nd} {n : Nd} (h : n ∈ roomOf k l) : n ∈ l := by
  obtain ⟨d, e⟩ := roomOf_suffix k l
  rw [e]
  exact List.mem_append.2 (.inr h)

section
variable {w : World} {R r M : Nat} {last : Int} {v : Value} {er : List Ev} {l : List Nd}
set_option linter.unusedSimpArgs false in
set_option linter.unusedVariables false in
set_option linter.unnecessarySimpa false in
theorem Two.rlt (h : Two w R r M last v er l) : R < w.heap.size := h.sh.rlt
set_option linter.unusedSimpArgs false in
set_option linter.unusedVariables false in
set_option linter.unnecessarySimpa false in
theorem Two.drop (h : Two w R r M last v er l) {w' : World} (hb : But (Foot (R + 2) R (R + 1) l) w w') : Below R w w' := hb.below h.sh.base (Nat.le_of_lt h.rlt)
set_option linter.unusedSimpArgs false in
set_option linter.unusedVariables false in
set_option linter.unnecessarySimpa false in
theorem Two.rsb (h : Two w R r M last v er l) {w' : World} (hb : But (Foot (R + 2) R (R + 1) l) w w') : Rs R w' r (M : Int) last v er := h.rs.but h.sh hb h.sh.base
set_option linter.unusedSimpArgs false in
set_option linter.unusedVariables false in
set_option linter.unnecessarySimpa false in
theorem Two.alikeF (h : Two w R r M last v er l) (key : Bytes) (lp : List F) : (er.filter (fun e => !alikeE key lp e)).map Ev.x = (l.filter (fun n => !alikeP key lp n)).map Nd.x := join_filter h.eq (fun x => !(x.key == key && x.lp == lp))

set_option linter.unusedSimpArgs false in
set_option linter.unusedVariables false in
set_option linter.unnecessarySimpa false in
set_option maxRecDepth 100000 in
set_option maxHeartbeats 4000000 in
theorem two_put (h : Two w R r M last v er l) (hids : ∀ n ∈ l, n.x.id ≤ last) (hla : 0 ≤ last ∧ last ≤ 4611686018427387904) (q : En) (lp lf : List F) (hp : Fo 53 R w q.vp lp) (hf : Fo 62 R w q.vf lf)
    (hk : q.key.length ≤ 1099511627776) (hb : q.body.length ≤ 1099511627776) (hl : fsum lp ≤ 1099511627776) (hl2 : fsum lf ≤ 1048576) :
    ∃ a b : Int, Calls Tryd.prog 9 #[Ptr (R + 2), q.val] w fun e w1 => e = .returned (.tuple #[.int .i64 a, .int .i64 b]) ∧ Keeps w w1 ∧ Below R w w1 ∧
      ∀ w2, Below w1.heap.size w1 w2 → Calls Tryd.prog 10 #[Ptr r, q.val] w2 fun e w3 => e = .returned (.tuple #[.int .i64 a, .int .i64 b]) ∧ After R r M w2 last (last + 1) (Laid M l q lp lf) w3 := by
  have hRw : R ≤ w.heap.size := Nat.le_of_lt h.rlt
  have hpb : ∀ w', But (Foot (R + 2) R (R + 1) l) w w' → Fo 53 R w' q.vp lp := fun w' hb => hp.but_s h.sh h.sh.base hRw hb (by decide) (by decide)
  have hfb : ∀ w', But (Foot (R + 2) R (R + 1) l) w w' → Fo 62 R w' q.vf lf := fun w' hb => hf.but_s h.sh h.sh.base hRw hb (by decide) (by decide)
  have hsz : ∀ w', But (Foot (R + 2) R (R + 1) l) w w' → R ≤ w'.heap.size := fun w' hb => Nat.le_trans hRw hb.size
  have hmap := h.alikeF q.key lp
  by_cases hc : costF q lp lf ≤ M
  · refine ⟨last + 1, 0, (Put_any R R (R + 2) R (R + 1) (M : Int) last l q lp lf w h.sh hRw hRw (fun w' hb => (hpb w' hb).fs (hsz w' hb)) (fun w' hb => (hfb w' hb).fs (hsz w' hb)) hk hb hl (by omega) hids hla M rfl hc).mono ?_⟩
    rintro e w1 ⟨rfl, nd, hnx, -, hs1, hb1⟩
    refine ⟨rfl, Keeps.but_s h.sh hb1, h.drop hb1, fun w2 hb2 => ?_⟩
    have hr2 := (h.rsb hb1).below hb2
    have hs2 := hs1.below hb2
    have hR1 := hsz w1 hb1
    refine (refPut_any q lp lf w2 hr2 ((hpb w1 hb1).below hb2 hR1) ((hfb w1 hb1).below hb2 hR1) hk hb hl hl2 hla hc).mono ?_
    rintro e w3 ⟨rfl, ⟨v', hr3⟩, hb3⟩
    refine ⟨rfl, last + 1, v', _, _, ⟨hs2.but_r hr2.blk hb3, hr3, ?_⟩, ?_, by omega, Int.le_refl _, ?_, Keeps.but_r hr2.blk hb3, hb3.below (fun k hk => by rw [hk]; exact hr2.lo) (Nat.le_of_lt hr2.at)⟩
    · rw [List.map_append, List.map_append, roomE_map _ _ _ hmap]
      simp [hnx]
    · intro n hn
      rcases List.mem_append.1 hn with hn | hn
      · have := hids n (List.mem_filter.1 (roomOf_mem hn)).1
        omega
      · rw [List.mem_singleton.1 hn, hnx]; exact Int.le_refl _
    · refine ⟨fun n hn => ?_, fun _ => ⟨nd, by simp, _, hnx⟩⟩
      rcases List.mem_append.1 hn with hn | hn
      · exact .inl (List.mem_filter.1 (roomOf_mem hn)).1
      · rw [List.mem_singleton.1 hn]; exact .inr ⟨_, hnx⟩
  · have hc' : (M : Int) < (costF q lp lf : Nat) := by omega
    refine ⟨0, 2, (Put_long R R (R + 2) R (R + 1) (M : Int) last l q lp lf w h.sh (fun w' hb => (hpb w' hb).fs (hsz w' hb)) (fun w' hb => (hfb w' hb).fs (hsz w' hb)) hk hb hl (by omega) hla hc').mono ?_⟩
    rintro e w1 ⟨rfl, hs1, hb1⟩
    refine ⟨rfl, Keeps.but_s h.sh hb1, h.drop hb1, fun w2 hb2 => ?_⟩
    have hr2 := (h.rsb hb1).below hb2
    have hs2 := hs1.below hb2
    have hR1 := hsz w1 hb1
    refine (refPut_long q lp lf w2 hr2 ((hpb w1 hb1).below hb2 hR1) ((hfb w1 hb1).below hb2 hR1) hk hb hl hl2 hla hc').mono ?_
    rintro e w3 ⟨rfl, ⟨v', hr3⟩, hb3⟩
    exact ⟨rfl, last, v', _, _, ⟨hs2.but_r hr2.blk hb3, hr3, hmap⟩, fun n hn => hids n (List.mem_filter.1 hn).1, Int.le_refl _, by omega, ⟨fun n hn => .inl (List.mem_filter.1 hn).1, fun h => absurd h hc⟩, Keeps.but_r hr2.blk hb3, hb3.below (fun k hk => by rw [hk]; exact hr2.lo) (Nat.le_of_lt hr2.at)⟩

/-- What both answer that look for an entry: nothing, or the same one. -/
def Founds (R r M : Nat) (w : World) (key : Bytes) (vl : Value) (list : List F) (l : List Nd) (last : Int) (e : Ending) (w1 : World) : Prop :=
  Keeps w w1 ∧ Below R w w1 ∧ ((bestOf key list l = none ∧ e = .returned (.tuple #[entZ, .int .i64 0, .bool false]) ∧
      ∀ w2, Below w1.heap.size w1 w2 → Calls Tryd.prog 12 #[Ptr r, S key, vl] w2 fun e w3 => e = .returned (.tuple #[entZ, .int .i64 0, .bool false]) ∧ After R r M w2 last last (Less l) w3) ∨
    (∃ n v, n ∈ l ∧ bestOf key list l = some n ∧ e = .returned (.tuple #[v, .int .i64 n.x.id, .bool true]) ∧ RetE n.x w.heap.size v w1 ∧
      ∀ w2, Below w1.heap.size w1 w2 → Calls Tryd.prog 12 #[Ptr r, S key, vl] w2 fun e w3 => ∃ ev : Ev, ev.x = n.x ∧ EvFs R w3 ev ∧ e = .returned (.tuple #[ev.val, .int .i64 n.x.id, .bool true]) ∧ After R r M w2 last last (Less l) w3))

set_option linter.unusedSimpArgs false in
set_option linter.unusedVariables false in
set_option linter.unnecessarySimpa false in
set_option maxRecDepth 100000 in
set_option maxHeartbeats 4000000 in
theorem two_find (h : Two w R r M last v er l) (hids : ∀ n ∈ l, n.x.id ≤ last) (key : Bytes) (vl : Value) (list : List F) (hf : Fo 62 R w vl list) (hl : fsum list ≤ 1099511627776) :
    Calls Tryd.prog 11 #[Ptr (R + 2), S key, vl] w (Founds R r M w key vl list l last) := by
  have hRw : R ≤ w.heap.size := Nat.le_of_lt h.rlt
  refine (Find_any R R (R + 2) R (R + 1) (M : Int) last l key vl list w h.sh (hf.fs hRw) hl).mono ?_
  rintro e w1 (⟨hno, rfl, hb1⟩ | ⟨a, n, b, v1, hlab, hbo, rfl, hret, hs1, hb1⟩)
  · refine ⟨Keeps.below hb1, hb1.mono hRw, .inl ⟨hno, rfl, fun w2 hb2 => ?_⟩⟩
    have h2 := (h.below hb1).below hb2
    have hR1 : R ≤ w1.heap.size := Nat.le_trans hRw hb1.size
    have hR2 : R ≤ w2.heap.size := Nat.le_trans hR1 hb2.size
    refine (refFind_any key vl list w2 h2.rs (((hf.below hb1 hRw).below hb2 hR1).fs hR2) hl).mono ?_
    intro e w3 hp
    rw [join_lost h.eq hno] at hp
    obtain ⟨rfl, hb3⟩ := hp
    exact ⟨rfl, last, v, er, l, h2.below hb3, hids, Int.le_refl _, Int.le_refl _, fun n hn => hn, Keeps.below hb3, hb3.mono hR2⟩
  · refine ⟨Keeps.but_s h.sh hb1, h.drop hb1, .inr ⟨n, v1, by rw [hlab]; simp, hbo, rfl, hret, fun w2 hb2 => ?_⟩⟩
    have hr2 := (h.rsb hb1).below hb2
    have hs2 := hs1.below hb2
    have hR1 : R ≤ w1.heap.size := Nat.le_trans hRw hb1.size
    have hR2 : R ≤ w2.heap.size := Nat.le_trans hR1 hb2.size
    have heq := h.eq
    have hidn := h.sh.ids
    rw [hlab] at heq hidn hbo
    refine (refFind_any key vl list w2 hr2 (((hf.but_s h.sh h.sh.base hRw hb1 (by decide) (by decide)).below hb2 hR1).fs hR2) hl).mono ?_
    intro e w3 hp
    rw [join_best heq hidn hbo] at hp
    obtain ⟨hj, rfl, ⟨v', hr3⟩, hb3⟩ := hp
    obtain ⟨hk, hx, h1, h2⟩ := join_split heq
    refine ⟨er[a.length], hx, hr3.lists _ (by simp), by rw [hx], last, v', _, a ++ b ++ [n], ⟨hs2.but_r hr2.blk hb3, hr3, ?_⟩, ?_, Int.le_refl _, Int.le_refl _, ?_, Keeps.but_r hr2.blk hb3, hb3.below (fun k hk => by rw [hk]; exact hr2.lo) (Nat.le_of_lt hr2.at)⟩
    · rw [List.map_append, join_out heq]
      simp [hx]
    · intro x hx
      exact hids x (by rw [hlab]; simp only [List.mem_append, List.mem_cons, List.mem_singleton, List.not_mem_nil, or_false] at hx ⊢; rcases hx with (hx | hx) | hx <;> simp [hx])
    · intro x hx
      exact (by rw [hlab]; simp only [List.mem_append, List.mem_cons, List.mem_singleton, List.not_mem_nil, or_false] at hx ⊢; rcases hx with (hx | hx) | hx <;> simp [hx])
end
end Go.Proofs.YtnflihjgbkocnaaDoor
