
/- The walks of layer 19: All. -/
import Derived.Test.YtnflihjgbkocnaaDoorShq5
import Derived.Test.YtnflihjgbkocnaaDoorShq6
import Derived.Deep.RegionWith
import Derived.Deep.RegionLaw
namespace Go.Proofs.YtnflihjgbkocnaaDoor
open Go.RowKit Go.Dr

/-- An entry in a row that is answered: its two lists, what it is. -/
structure Ev where
  vp : Value
  vf : Value
  x : It
def Ev.cells (v : Ev) : List Value := [S v.x.key, v.vp, .int .i64 v.x.st, v.vf, S v.x.body, .int .i64 v.x.asked, .int .i64 v.x.came]
def ecells (l : List Ev) : List Value := l.flatMap Ev.cells
set_option linter.unusedSimpArgs false in
set_option linter.unusedVariables false in
set_option linter.unnecessarySimpa false in
theorem Ev.one (v : Ev) (h1 : ∃ a n c, v.vp = .slice a n c) (h2 : ∃ a n c, v.vf = .slice a n c) : ∀ u ∈ v.cells, u.oneCell' = true := by
  obtain ⟨a, n, c, h1⟩ := h1
  obtain ⟨a', n', c', h2⟩ := h2
  intro u hu
  simp only [Ev.cells, List.mem_cons, List.not_mem_nil, or_false, h1, h2] at hu
  rcases hu with rfl | rfl | rfl | rfl | rfl | rfl | rfl <;> rfl
set_option linter.unusedSimpArgs false in
set_option linter.unusedVariables false in
set_option linter.unnecessarySimpa false in
theorem ecells_append (a b : List Ev) : ecells (a ++ b) = ecells a ++ ecells b := by simp [ecells]
def EvRows (base : Nat) (w : World) (v : Ev) : Prop := w.ownsRow base 53 3 v.vp v.x.lp.length (fcells v.x.lp) ∧ w.ownsRow base 62 3 v.vf v.x.lf.length (fcells v.x.lf)
set_option linter.unusedSimpArgs false in
set_option linter.unusedVariables false in
set_option linter.unnecessarySimpa false in
theorem EvRows.low {base base' : Nat} {w : World} {v : Ev} (h : EvRows base w v) (hb : base' ≤ base) : EvRows base' w v := ⟨own_base h.1 hb, own_base h.2 hb⟩
set_option linter.unusedSimpArgs false in
set_option linter.unusedVariables false in
set_option linter.unnecessarySimpa false in
theorem EvRows.block {base : Nat} {w w' : World} {v : Ev} (h : EvRows base w v) (hb : ∀ (g : Nat) (cur : Array Value), (w.heap[g]? = some (Obj.cells cur 53 (0, 0)) ∨ w.heap[g]? = some (Obj.cells cur 62 (0, 0))) → w'.heap[g]? = w.heap[g]?) : EvRows base w' v :=
  ⟨own_block h.1 fun g cur hg _ => hb g cur (.inl hg), own_block h.2 fun g cur hg _ => hb g cur (.inr hg)⟩

set_option linter.unusedSimpArgs false in
set_option linter.unusedVariables false in
set_option linter.unnecessarySimpa false in
theorem own_ty {w : World} {base : Nat} {e : TypeId} {size : Nat} {v : Value} {n : Nat} {xs : List Value} (h : w.ownsRow base e size v n xs) {g : Nat} (hg : v.ownBlock = some g) : ∃ cur, w.heap[g]? = some (.cells cur e (0, 0)) := by
  rcases h.2 with ⟨rfl, _⟩ | ⟨g', cap, cur, rfl, _, hh, _⟩
  · cases hg
  · have : g' = g := Option.some.inj hg
    exact ⟨cur, this ▸ hh⟩
set_option linter.unusedSimpArgs false in
set_option linter.unusedVariables false in
set_option linter.unnecessarySimpa false in
theorem own_at {w : World} {base : Nat} {e : TypeId} {size : Nat} {v : Value} {n : Nat} {xs : List Value} (h : w.ownsRow base e size v n xs) {b : Nat} (hb : b < base) : some b ≠ v.ownBlock := by
  rcases h.2 with ⟨rfl, _⟩ | ⟨g, cap, cur, rfl, hg, _⟩
  · intro e; cases e
  · intro e
    have : b = g := Option.some.inj e
    omega

set_option linter.unusedSimpArgs false in
set_option linter.unusedVariables false in
set_option linter.unnecessarySimpa false in
set_option maxRecDepth 100000 in
set_option maxHeartbeats 4000000 in
theorem all1_any (c : Nat) (n : Nd) (rb base : Nat) (v : Value) (evs : List Ev) (w : World) (hc : Blk w c 76 #[v]) (hcb : c < base) (hbase : base ≤ w.heap.size) (hr : Rows rb w n) (hcost : n.x.cost ≤ 1048576) (hv : w.ownsRow base 36 7 v evs.length (ecells evs)) (he : ∀ e ∈ evs, EvRows base w e) (hlen : evs.length ≤ 1048576) :
    Calls Tryd.prog 46 #[entV n, Ptr c] w fun e w' => e = .returned (.bool false) ∧ ∃ v' ev, ev.x = n.x ∧ Blk w' c 76 #[v'] ∧ w'.ownsRow base 36 7 v' (evs.length + 1) (ecells (evs ++ [ev])) ∧ (∀ e ∈ evs ++ [ev], EvRows base w' e) ∧ But (fun k => k = c ∨ base ≤ k) w w' := by
  obtain ⟨av, kv, rfl, -⟩ : ∃ a cap, v = .slice a evs.length cap ∧ True := by
    rcases hv.2 with ⟨rfl, h0⟩ | ⟨g, cap, cur, rfl, _⟩
    · exact ⟨none, 0, by rw [h0], trivial⟩
    · exact ⟨_, _, rfl, trivial⟩
  obtain ⟨w1, ew⟩ : ∃ w1 : World, w1 = w.alloc (.cells #[S n.x.key, n.vp, .int .i64 n.x.st, n.vf, S n.x.body, .int .i64 n.x.asked, .int .i64 n.x.came] 36) := ⟨_, rfl⟩
  have hb1 : Below w.heap.size w w1 := by rw [ew]; exact (Below.refl _ _).alloc (Nat.le_refl _) _
  have hX : Blk w1 w.heap.size 36 #[S n.x.key, n.vp, .int .i64 n.x.st, n.vf, S n.x.body, .int .i64 n.x.asked, .int .i64 n.x.came] := by rw [ew]; exact Blk.new _ _ _
  have hc1 := hc.on hb1
  have hv1 := own_below hv hb1
  have he1 : ∀ e ∈ evs, EvRows base w1 e := fun e hm => ⟨own_below (he e hm).1 hb1, own_below (he e hm).2 hb1⟩
  have hC := copied_nd n w1.drew (show Rows rb w1.drew n from (show Rows rb w1 n from hr.below hb1)) hcost
  (have x0 : w1.cell? ⟨w.heap.size, 0, none⟩ = some (S n.x.key) := hX.cell 0; have x1 : w1.cell? ⟨w.heap.size, 1, none⟩ = some (n.vp) := hX.cell 1; have x2 : w1.cell? ⟨w.heap.size, 2, none⟩ = some (.int .i64 n.x.st) := hX.cell 2; have x3 : w1.cell? ⟨w.heap.size, 3, none⟩ = some (n.vf) := hX.cell 3; have x4 : w1.cell? ⟨w.heap.size, 4, none⟩ = some (S n.x.body) := hX.cell 4; have x5 : w1.cell? ⟨w.heap.size, 5, none⟩ = some (.int .i64 n.x.asked) := hX.cell 5; have x6 : w1.cell? ⟨w.heap.size, 6, none⟩ = some (.int .i64 n.x.came) := hX.cell 6)
  (have d0 : w1.drew.cell? ⟨w.heap.size, 0, none⟩ = some (S n.x.key) := hX.cell 0; have d1 : w1.drew.cell? ⟨w.heap.size, 1, none⟩ = some (n.vp) := hX.cell 1; have d2 : w1.drew.cell? ⟨w.heap.size, 2, none⟩ = some (.int .i64 n.x.st) := hX.cell 2; have d3 : w1.drew.cell? ⟨w.heap.size, 3, none⟩ = some (n.vf) := hX.cell 3; have d4 : w1.drew.cell? ⟨w.heap.size, 4, none⟩ = some (S n.x.body) := hX.cell 4; have d5 : w1.drew.cell? ⟨w.heap.size, 5, none⟩ = some (.int .i64 n.x.asked) := hX.cell 5; have d6 : w1.drew.cell? ⟨w.heap.size, 6, none⟩ = some (.int .i64 n.x.came) := hX.cell 6)
  have k1 : w1.cell? ⟨c, 0, none⟩ = some (.slice av evs.length kv) := hc1.cell 0
  have k1d : w1.drew.cell? ⟨c, 0, none⟩ = some (.slice av evs.length kv) := hc1.cell 0
  have hz1 := hb1.size
  clear hc hv he hr
  go_enter Tryd.func46, Tryd.ntmps46
  go_upto_region 1 with fail
  rw [← ew]
  clear ew
  go_region_law (first
    | (go_simp; go_at_call 32; refine hC.mono ?_; rintro e w2 ⟨vp, vf, rfl, o1, o2, hb2⟩; obtain ⟨ap, kp, rfl, -⟩ := (Fs.own o1).form; obtain ⟨af, kf, rfl, -⟩ := (Fs.own o2).form; have hc2 := hc1.drew.on hb2; have k2 : w2.cell? ⟨c, 0, none⟩ = some (.slice av evs.length kv) := hc2.cell 0; have k2a : ∀ o, (w2.alloc o).cell? ⟨c, 0, none⟩ = some (.slice av evs.length kv) := fun o => (hc2.alloc o).cell 0)
    | (refine step_of ?_ (by rfl); refine wp_appG _ _ 76 rfl base 36 (.agg Ez) 7 104 Tryd.underlying76 (by kernel_rfl) rfl (by decide) _ _ _ rfl ((own_below (show w1.drew.ownsRow base 36 7 _ evs.length (ecells evs) from hv1) hb2).alloc _) _ _ _ _ rfl (Rd.lit w2 36 #[S n.x.key, .slice ap n.x.lp.length kp, .int .i64 n.x.st, .slice af n.x.lf.length kf, S n.x.body, .int .i64 n.x.asked, .int .i64 n.x.came] 7 1 rfl (by decide)) (Ev.one ⟨.slice ap n.x.lp.length kp, .slice af n.x.lf.length kf, n.x⟩ ⟨_, _, _, rfl⟩ ⟨_, _, _, rfl⟩) (by unfold maxLen; omega) (by omega) (by have := hb2.size; simp at this ⊢; omega) ?_; intro a3 c3 w3 hown3 hb3 hg3; have hc3 := (hc2.alloc (.cells #[S n.x.key, .slice ap n.x.lp.length kp, .int .i64 n.x.st, .slice af n.x.lf.length kf, S n.x.body, .int .i64 n.x.asked, .int .i64 n.x.came] 36)).below hb3 hcb; have k3 : w3.cell? ⟨c, 0, none⟩ = some (.slice av evs.length kv) := hc3.cell 0; have f3 := hc3.free 0))
  all_goals
    have hz2 : w1.heap.size ≤ w2.heap.size := hb2.size
    have hv2 := own_below (show w1.drew.ownsRow base 36 7 _ evs.length (ecells evs) from hv1) hb2
    have hv2a := hv2.alloc (.cells #[S n.x.key, .slice ap n.x.lp.length kp, .int .i64 n.x.st, .slice af n.x.lf.length kf, S n.x.body, .int .i64 n.x.asked, .int .i64 n.x.came] 36)
    have hr3 : ∀ ev : Ev, EvRows base w2 ev → EvRows base (w3.setCell ⟨c, 0, none⟩ (.slice a3 (evs.length + 1) c3)) ev := fun ev h => by
      have h1 : EvRows base (w2.alloc (.cells #[S n.x.key, .slice ap n.x.lp.length kp, .int .i64 n.x.st, .slice af n.x.lf.length kf, S n.x.body, .int .i64 n.x.asked, .int .i64 n.x.came] 36)) ev := ⟨h.1.alloc _, h.2.alloc _⟩
      have h2 : EvRows base w3 ev := h1.block fun g cur hg => hg3.block g (by rcases hg with hg | hg <;> exact (Array.getElem?_eq_some_iff.1 hg).1) fun e => by
        obtain ⟨cu, hcu⟩ := own_ty hv2a e.symm
        rw [hcu] at hg
        simp at hg
      exact ⟨ownsRow_setCell_below h2.1 hcb _, ownsRow_setCell_below h2.2 hcb _⟩
    have hbt : But (fun k => k = c ∨ base ≤ k) w (w3.setCell ⟨c, 0, none⟩ (.slice a3 (evs.length + 1) c3)) := by
      have q1 : But (fun k => k = c ∨ base ≤ k) w w2 := (But.of_below hb1).drew.trans (But.of_below hb2)
      have q2 := q1.alloc (.cells #[S n.x.key, .slice ap n.x.lp.length kp, .int .i64 n.x.st, .slice af n.x.lf.length kf, S n.x.body, .int .i64 n.x.asked, .int .i64 n.x.came] 36)
      have q3 : But (fun k => k = c ∨ base ≤ k) w w3 := q2.trans ⟨hb3.os, hb3.tape, hb3.output, hb3.size, fun k _ hk => hb3.block k (Nat.lt_of_not_le fun h => hk (.inr h))⟩
      exact q3.setCell (p := ⟨c, 0, none⟩) (.inl (.inl rfl)) _
    have hcell : ecells (evs ++ [⟨.slice ap n.x.lp.length kp, .slice af n.x.lf.length kf, n.x⟩]) = ecells evs ++ [S n.x.key, .slice ap n.x.lp.length kp, .int .i64 n.x.st, .slice af n.x.lf.length kf, S n.x.body, .int .i64 n.x.asked, .int .i64 n.x.came] := by
      rw [ecells_append]
      simp [ecells, Ev.cells]
    have hrow : (w3.setCell ⟨c, 0, none⟩ (.slice a3 (evs.length + 1) c3)).ownsRow base 36 7 (.slice a3 (evs.length + 1) c3) (evs.length + 1) (ecells (evs ++ [⟨.slice ap n.x.lp.length kp, .slice af n.x.lf.length kf, n.x⟩])) := by
      rw [hcell]
      exact ownsRow_setCell_below hown3 hcb _
    have hall : ∀ e ∈ evs ++ [(⟨.slice ap n.x.lp.length kp, .slice af n.x.lf.length kf, n.x⟩ : Ev)], EvRows base (w3.setCell ⟨c, 0, none⟩ (.slice a3 (evs.length + 1) c3)) e := fun e hm => by
      refine hr3 e ?_
      rcases List.mem_append.1 hm with hm | hm
      · exact ⟨own_below (show w1.drew.ownsRow base _ 3 _ _ _ from (he1 e hm).1) hb2, own_below (show w1.drew.ownsRow base _ 3 _ _ _ from (he1 e hm).2) hb2⟩
      · rw [List.mem_singleton.1 hm]
        have hz : base ≤ w1.drew.heap.size := Nat.le_trans hbase hz1
        exact ⟨own_base o1 hz, own_base o2 hz⟩
    have hcf : Blk (w3.setCell ⟨c, 0, none⟩ (.slice a3 (evs.length + 1) c3)) c 76 #[.slice a3 (evs.length + 1) c3] := by
      have := hc3.set 0 (.slice a3 (evs.length + 1) c3)
      simpa using this
    clear hr3 hcell hown3 hg3 hb3 hv2 hv2a
    go_wp2
    go_ret
    exact ⟨rfl, _, _, rfl, hcf, hrow, hall, hbt⟩

/-- The entries that are answered: their row, their lists. -/
structure Evs (base : Nat) (w : World) (v : Value) (l : List It) (evs : List Ev) : Prop where
  items : evs.map Ev.x = l
  row : w.ownsRow base 36 7 v evs.length (ecells evs)
  lists : ∀ e ∈ evs, EvRows base w e

set_option linter.unusedSimpArgs false in
set_option linter.unusedVariables false in
set_option linter.unnecessarySimpa false in
set_option maxRecDepth 100000 in
set_option maxHeartbeats 4000000 in
theorem ShAll_any (fb rb s R m : Nat) (most last : Int) (l : List Nd) (w : World) (h : Sh fb rb w s R m most last l) :
    Calls Tryd.prog 39 #[Ptr s] w fun e w' => ∃ v evs, e = .returned v ∧ Evs w.heap.size w' v (l.map Nd.x) evs ∧ Below w.heap.size w w' := by
  obtain ⟨w0, ew⟩ : ∃ w0 : World, w0 = w.alloc (.cells #[.slice none 0 0] 76) := ⟨_, rfl⟩
  have hb0 : Below w.heap.size w w0 := by rw [ew]; exact (Below.refl _ _).alloc (Nat.le_refl _) _
  have hc0 : Blk w0 w.heap.size 76 #[.slice none 0 0] := by rw [ew]; exact Blk.new _ _ _
  have hs0 := h.below hb0
  have hz0 : w0.heap.size = w.heap.size + 1 := by rw [ew]; simp
  have hlen := h.length_le
  have hC := sweep_any fb rb s R m most last l w0 hs0 (by omega) _ (enter_of Tryd.func46 (by kernel_rfl) rfl) #[Ptr w.heap.size] (fun _ => false)
    (fun dn wr => ∃ v evs, evs.map Ev.x = dn.map Nd.x ∧ dn.length ≤ l.length ∧ Blk wr w.heap.size 76 #[v] ∧ wr.ownsRow (w.heap.size + 1) 36 7 v evs.length (ecells evs) ∧ (∀ e ∈ evs, EvRows (w.heap.size + 1) wr e) ∧ Below w.heap.size w wr ∧ w.heap.size + 1 ≤ wr.heap.size)
    ⟨_, [], rfl, Nat.zero_le _, hc0, World.ownsRow_nil _ _ _ _, by simp, hb0, by omega⟩
    (by
      intro dn n rs wa hl hs ⟨v, evs, hev, hdl, hc, hv, he, hbw, hsz⟩
      have hlenE : evs.length = dn.length := by have := congrArg List.length hev; simpa using this
      refine (all1_any w.heap.size n rb (w.heap.size + 1) v evs wa hc (by omega) hsz (hs.rows n (by simp)) (hs.cost_le (by simp)) hv he (by omega)).mono ?_
      rintro e wb ⟨rfl, v', ev, hx, hc', hv', he', hb'⟩
      have hkeep : ∀ k, k < w.heap.size → wb.heap[k]? = wa.heap[k]? := fun k hk => hb'.block k (by omega) (by rintro (e | e) <;> omega)
      have hbw2 : Below w.heap.size w wb := ⟨hb'.os.trans hbw.os, hb'.tape.trans hbw.tape, hb'.output.trans hbw.output, Nat.le_trans hbw.size hb'.size, fun k hk => (hkeep k hk).trans (hbw.block k hk)⟩
      have hml : ∀ x ∈ dn.filter (fun _ => !false) ++ n :: rs, x ∈ l := fun x hx => by
        rw [hl]
        rcases List.mem_append.1 hx with hx | hx
        · exact List.mem_append.2 (.inl (List.mem_filter.1 hx).1)
        · exact List.mem_append.2 (.inr hx)
      exact ⟨rfl, hs.keep (fun k hk => hkeep k (h.foot_lt (foot_more hml hk))) (fun n' hn' => (h.rows n' (hml n' hn')).below hbw2), v', evs ++ [ev], by simp [hev, hx], by rw [hl]; simp, hc', by simpa using hv', he', hbw2, Nat.le_trans hsz hb'.size⟩)
    (fun ⟨_, _, hp⟩ => by cases hp)
  have hff : l.filter (fun _ => !false) = l := List.filter_eq_self.2 (fun _ _ => rfl)
  have hf0 : (l.filter fun _ => false).length = 0 := by simp
  rw [hff, hf0] at hC
  clear hff hf0
  have hmf : ∀ (fn : Fn) (first cap : Array Value) (w : World), (Instr.makeFunc fn first cap).run Tryd.prog w = .ok (.func fn first cap) w := fun _ _ _ _ => rfl
  go_enter Tryd.func39, Tryd.ntmps39
  go_upto_region 2 with fail
  rw [← ew]
  clear ew
  go_wp2_with fail
  refine hC.mono ?_
  rintro e w1 ⟨rfl, hs1, v, evs, hev, -, hc1, hv1, he1, hbw, -⟩
  have k1 : w1.cell? ⟨w.heap.size, 0, none⟩ = some v := hc1.cell 0
  go_wp2
  go_ret
  exact ⟨v, evs, rfl, ⟨hev, own_base hv1 (by omega), fun e hm => (he1 e hm).low (by omega)⟩, hbw⟩
end Go.Proofs.YtnflihjgbkocnaaDoor
