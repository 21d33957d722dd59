
/- The shelf and the document's shelf, side by side: Set, Forget and At of both. -/
import Derived.Test.YtnflihjgbkocnaaDoorTwo
import Derived.Test.YtnflihjgbkocnaaDoorShqA
namespace Go.Proofs.YtnflihjgbkocnaaDoor
open Go.RowKit Go.Dr
section
variable {w : World} {R r M : Nat} {last : Int} {v : Value} {er : List Ev} {l : List Nd}

set_option linter.unusedSimpArgs false in
set_option linter.unusedVariables false in
set_option linter.unnecessarySimpa false in
set_option maxRecDepth 100000 in
set_option maxHeartbeats 4000000 in
theorem two_set (h : Two w R r M last v er l) (hids : ∀ n ∈ l, n.x.id ≤ last) (i : Int) (hw : (Lit.int .i64 i).wf = true) (q : En) (lp lf : List F) (hp : Fo 53 R w q.vp lp) (hf : Fo 62 R w q.vf lf)
    (hk : q.key.length ≤ 1099511627776) (hb : q.body.length ≤ 1099511627776) (hl : fsum lp ≤ 1099511627776) (hl2 : fsum lf ≤ 1048576) :
    ∃ a : Int, Calls Tryd.prog 14 #[Ptr (R + 2), .int .i64 i, q.val] w fun e w1 => e = .returned (.int .i64 a) ∧ Keeps w w1 ∧ Below R w w1 ∧
      ∀ w2, Below w1.heap.size w1 w2 → Calls Tryd.prog 15 #[Ptr r, .int .i64 i, q.val] w2 fun e w3 => e = .returned (.int .i64 a) ∧ After R r M w2 last last (fun _ => True) w3 := by
  have hRw : R ≤ w.heap.size := Nat.le_of_lt h.rlt
  have hpb : ∀ w', But (Foot (R + 2) R (R + 1) l) w w' → Fo 53 R w' q.vp lp := fun w' hb => hp.but_s h.sh h.sh.base hRw hb (by decide) (by decide)
  have hfb : ∀ w', But (Foot (R + 2) R (R + 1) l) w w' → Fo 62 R w' q.vf lf := fun w' hb => hf.but_s h.sh h.sh.base hRw hb (by decide) (by decide)
  have hsz : ∀ w', But (Foot (R + 2) R (R + 1) l) w w' → R ≤ w'.heap.size := fun w' hb => Nat.le_trans hRw hb.size
  by_cases hex : ∃ n ∈ l, n.x.id = i
  · obtain ⟨a, n, b, hlab, rfl, ha⟩ := split_id hex
    have heq := h.eq
    rw [hlab] at heq
    obtain ⟨hkl, hx, h1, h2⟩ := join_split heq
    have hbef := join_before heq ha
    have hidx : er[a.length].x.id = n.x.id := by rw [hx]
    have hs0 := h.sh
    rw [hlab] at hs0
    by_cases hc : costF q lp lf ≤ M
    · refine ⟨0, (Set_some R R (R + 2) R (R + 1) (M : Int) last a b n q lp lf w hs0 hRw hRw (fun w' hb => (hpb w' (hlab ▸ hb)).fs (hsz w' (hlab ▸ hb))) (fun w' hb => (hfb w' (hlab ▸ hb)).fs (hsz w' (hlab ▸ hb))) hk hb hl (by omega) hw M rfl hc).mono ?_⟩
      rintro e w1 ⟨rfl, nd, hnx, -, hs1, hb1⟩
      rw [← hlab] at hb1
      refine ⟨rfl, Keeps.but_s h.sh hb1, h.drop hb1, fun w2 hb2 => ?_⟩
      have hr2 := (h.rsb hb1).below hb2
      have hs2 := hs1.below hb2
      have hR1 := hsz w1 hb1
      refine (refSet_any n.x.id q lp lf w2 hr2 a.length hkl hbef hidx ((hpb w1 hb1).below hb2 hR1) ((hfb w1 hb1).below hb2 hR1) hk hb hl hl2 hc).mono ?_
      rintro e w3 ⟨rfl, ⟨v', hr3⟩, hb3⟩
      refine ⟨rfl, last, v', _, _, ⟨hs2.but_r hr2.blk hb3, hr3, ?_⟩, ?_, Int.le_refl _, Int.le_refl _, ?_, Keeps.but_r hr2.blk hb3, hb3.below (fun k hk => by rw [hk]; exact hr2.lo) (Nat.le_of_lt hr2.at)⟩
      · rw [List.map_append, List.map_append, roomE_map _ _ _ (join_out heq)]
        simp [hnx]
      · intro x hx'
        rcases List.mem_append.1 hx' with hx' | hx'
        · have := roomOf_mem hx'
          exact hids x (by rw [hlab]; simp only [List.mem_append, List.mem_cons] at this ⊢; rcases this with h | h <;> simp [h])
        · rw [List.mem_singleton.1 hx', hnx]
          exact hids n (by rw [hlab]; simp)
      · trivial
    · have hc' : (M : Int) < (costF q lp lf : Nat) := by omega
      refine ⟨2, (Set_long R R (R + 2) R (R + 1) (M : Int) last a b n q lp lf w hs0 hRw hRw (fun w' hb => (hpb w' (hlab ▸ hb)).fs (hsz w' (hlab ▸ hb))) (fun w' hb => (hfb w' (hlab ▸ hb)).fs (hsz w' (hlab ▸ hb))) hk hb hl (by omega) hw hc').mono ?_⟩
      rintro e w1 ⟨rfl, hs1, hb1⟩
      rw [← hlab] at hb1
      refine ⟨rfl, Keeps.but_s h.sh hb1, h.drop hb1, fun w2 hb2 => ?_⟩
      have hr2 := (h.rsb hb1).below hb2
      have hs2 := hs1.below hb2
      have hR1 := hsz w1 hb1
      refine (refSet_long n.x.id q lp lf w2 hr2 a.length hkl hbef hidx ((hpb w1 hb1).below hb2 hR1) ((hfb w1 hb1).below hb2 hR1) hk hb hl hl2 hc').mono ?_
      rintro e w3 ⟨rfl, ⟨v', hr3⟩, hb3⟩
      refine ⟨rfl, last, v', _, _, ⟨hs2.but_r hr2.blk hb3, hr3, join_out heq⟩, ?_, Int.le_refl _, Int.le_refl _, ?_, Keeps.but_r hr2.blk hb3, hb3.below (fun k hk => by rw [hk]; exact hr2.lo) (Nat.le_of_lt hr2.at)⟩
      · intro x this
        exact hids x (by rw [hlab]; simp only [List.mem_append, List.mem_cons] at this ⊢; rcases this with h | h <;> simp [h])
      · trivial
  · have hno : ∀ n ∈ l, n.x.id ≠ i := fun n hn e => hex ⟨n, hn, e⟩
    refine ⟨4, (Set_none R R (R + 2) R (R + 1) (M : Int) last l q w h.sh i hno hw).mono ?_⟩
    rintro e w1 ⟨rfl, hb1⟩
    refine ⟨rfl, Keeps.below hb1, hb1.mono hRw, fun w2 hb2 => ?_⟩
    have h2 := (h.below hb1).below hb2
    obtain ⟨a1, c1, e1, -⟩ := hp.form
    obtain ⟨a2, c2, e2, -⟩ := hf.form
    refine (refSet_none i q w2 h2.rs (join_none h.eq hno) ⟨⟨_, _, _, e1⟩, _, _, _, e2⟩).mono ?_
    rintro e w3 ⟨rfl, hb3⟩
    exact ⟨rfl, last, v, er, l, h2.below hb3, hids, Int.le_refl _, Int.le_refl _, trivial, Keeps.below hb3, hb3.mono (Nat.le_of_lt h2.rlt)⟩

set_option linter.unusedSimpArgs false in
set_option linter.unusedVariables false in
set_option linter.unnecessarySimpa false in
set_option maxRecDepth 100000 in
set_option maxHeartbeats 4000000 in
theorem two_forget (h : Two w R r M last v er l) (hids : ∀ n ∈ l, n.x.id ≤ last) (key : Bytes) :
    ∃ a : Int, Calls Tryd.prog 16 #[Ptr (R + 2), S key] w fun e w1 => e = .returned (.int .i64 a) ∧ Keeps w w1 ∧ Below R w w1 ∧
      ∀ w2, Below w1.heap.size w1 w2 → Calls Tryd.prog 17 #[Ptr r, S key] w2 fun e w3 => e = .returned (.int .i64 a) ∧ After R r M w2 last last (fun _ => True) w3 := by
  refine ⟨((l.filter (fun n => n.x.key == key)).length : Nat), (Forget_any R R (R + 2) R (R + 1) (M : Int) last l w h.sh key).mono ?_⟩
  rintro e w1 ⟨rfl, hs1, hb1⟩
  refine ⟨rfl, Keeps.but_s h.sh hb1, h.drop hb1, fun w2 hb2 => ?_⟩
  have hr2 := (h.rsb hb1).below hb2
  have hs2 := hs1.below hb2
  refine (refForget_any key w2 hr2).mono ?_
  rintro e w3 ⟨rfl, ⟨v', hr3⟩, hb3⟩
  refine ⟨?_, last, v', _, _, ⟨hs2.but_r hr2.blk hb3, hr3, join_filter h.eq (fun x => !(x.key == key))⟩, fun n hn => hids n (List.mem_filter.1 hn).1, Int.le_refl _, Int.le_refl _, trivial, Keeps.but_r hr2.blk hb3, hb3.below (fun k hk => by rw [hk]; exact hr2.lo) (Nat.le_of_lt hr2.at)⟩
  have := congrArg List.length (join_filter h.eq (fun x => x.key == key))
  rw [List.length_map, List.length_map] at this
  rw [this]

/-- What both answer that look for a number: nothing, or the same one. -/
def Gotten (R r : Nat) (w : World) (i : Int) (l : List Nd) (e : Ending) (w1 : World) : Prop :=
  Below w.heap.size w w1 ∧ ((e = .returned (.tuple #[entZ, .bool false]) ∧
      ∀ w2, Below w1.heap.size w1 w2 → Calls Tryd.prog 19 #[Ptr r, .int .i64 i] w2 fun e w3 => e = .returned (.tuple #[entZ, .bool false]) ∧ Below w2.heap.size w2 w3) ∨
    (∃ n v, n ∈ l ∧ e = .returned (.tuple #[v, .bool true]) ∧ RetE n.x w.heap.size v w1 ∧
      ∀ w2, Below w1.heap.size w1 w2 → Calls Tryd.prog 19 #[Ptr r, .int .i64 i] w2 fun e w3 => ∃ ev : Ev, ev.x = n.x ∧ EvFs R w3 ev ∧ e = .returned (.tuple #[ev.val, .bool true]) ∧ Below w2.heap.size w2 w3))

set_option linter.unusedSimpArgs false in
set_option linter.unusedVariables false in
set_option linter.unnecessarySimpa false in
set_option maxRecDepth 100000 in
set_option maxHeartbeats 4000000 in
theorem two_at (h : Two w R r M last v er l) (i : Int) (hw : (Lit.int .i64 i).wf = true) :
    Calls Tryd.prog 18 #[Ptr (R + 2), .int .i64 i] w (Gotten R r w i l) := by
  by_cases hex : ∃ n ∈ l, n.x.id = i
  · obtain ⟨a, n, b, hlab, rfl, ha⟩ := split_id hex
    have heq := h.eq
    rw [hlab] at heq
    obtain ⟨hkl, hx, h1, h2⟩ := join_split heq
    have hbef := join_before heq ha
    have hs0 := h.sh
    rw [hlab] at hs0
    refine (At_some R R (R + 2) R (R + 1) (M : Int) last a b n w hs0 hw).mono ?_
    rintro e w1 ⟨v1, rfl, hret, hb1⟩
    refine ⟨hb1, .inr ⟨n, v1, by rw [hlab]; simp, rfl, hret, fun w2 hb2 => ?_⟩⟩
    have h2 := (h.below hb1).below hb2
    refine (refAt_some w2 h2.rs n.x.id a.length hkl hbef (by rw [hx])).mono ?_
    rintro e w3 ⟨rfl, hb3⟩
    exact ⟨er[a.length], hx, (h2.below hb3).rs.lists _ (List.getElem_mem _), rfl, hb3⟩
  · have hno : ∀ n ∈ l, n.x.id ≠ i := fun n hn e => hex ⟨n, hn, e⟩
    refine (At_none R R (R + 2) R (R + 1) (M : Int) last l w h.sh i hno hw).mono ?_
    rintro e w1 ⟨rfl, hb1⟩
    refine ⟨hb1, .inl ⟨rfl, fun w2 hb2 => ?_⟩⟩
    have h2 := (h.below hb1).below hb2
    refine (refAt_none w2 h2.rs i (join_none h.eq hno)).mono ?_
    rintro e w3 ⟨rfl, hb3⟩
    exact ⟨rfl, hb3⟩
end
end Go.Proofs.YtnflihjgbkocnaaDoor
