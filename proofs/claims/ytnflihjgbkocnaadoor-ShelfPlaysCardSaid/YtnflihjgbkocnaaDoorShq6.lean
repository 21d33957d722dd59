
/- The walks of layer 19: At. -/
import Derived.Test.YtnflihjgbkocnaaDoorShq3
import Derived.Test.YtnflihjgbkocnaaDoorShf4
import Derived.Maps.OwnSet
namespace Go.Proofs.YtnflihjgbkocnaaDoor
open Go.RowKit Go.Dr

set_option linter.unusedSimpArgs false in
set_option linter.unusedVariables false in
set_option linter.unnecessarySimpa false in
theorem zeroLink (w : World) : (zeroValue 55).run Tryd.prog w = .ok (.pointer none) w := by kernel_rfl

/-- What an entry reads as that is answered: its lists lie in rows of their own. -/
def RetE (x : It) (base : Nat) (v : Value) (w : World) : Prop := ∃ vp vf, v = .agg #[S x.key, vp, .int .i64 x.st, vf, S x.body, .int .i64 x.asked, .int .i64 x.came] ∧ w.ownsRow base 53 3 vp x.lp.length (fcells x.lp) ∧ w.ownsRow base 62 3 vf x.lf.length (fcells x.lf)

set_option linter.unusedSimpArgs false in
set_option linter.unusedVariables false in
set_option linter.unnecessarySimpa false in
theorem RetE.low {x : It} {base base' : Nat} {v : Value} {w : World} (h : RetE x base v w) (hb : base' ≤ base) : RetE x base' v w := by
  obtain ⟨vp, vf, e, h1, h2⟩ := h
  exact ⟨vp, vf, e, own_base h1 hb, own_base h2 hb⟩
set_option linter.unusedSimpArgs false in
set_option linter.unusedVariables false in
set_option linter.unnecessarySimpa false in
theorem RetE.below {x : It} {base : Nat} {v : Value} {w w' : World} (h : RetE x base v w) (hb : Below w.heap.size w w') : RetE x base v w' := by
  obtain ⟨vp, vf, e, h1, h2⟩ := h
  exact ⟨vp, vf, e, own_below h1 hb, own_below h2 hb⟩
set_option linter.unusedSimpArgs false in
set_option linter.unusedVariables false in
set_option linter.unnecessarySimpa false in
theorem RetE.put7 {x : It} {base : Nat} {v : Value} {w : World} (h : RetE x base v w) {G : Nat} (hG : G < base) (b0 b1 b2 b3 b4 b5 b6 : Value) : RetE x base v (put7 w G b0 b1 b2 b3 b4 b5 b6) := by
  obtain ⟨vp, vf, e, h1, h2⟩ := h
  exact ⟨vp, vf, e, own_block h1 fun g cur _ hg => heap_put7 _ _ _ _ _ _ _ _ _ g (by omega), own_block h2 fun g cur _ hg => heap_put7 _ _ _ _ _ _ _ _ _ g (by omega)⟩

set_option linter.unusedSimpArgs false in
set_option linter.unusedVariables false in
set_option linter.unnecessarySimpa false in
/-- A link's entry is copied. -/
theorem copied_nd {rb : Nat} (n : Nd) (w : World) (h : Rows rb w n) (hc : n.x.cost ≤ 1048576) :
    Calls Tryd.prog 32 #[entV n] w fun e w' => ∃ vp vf, e = .returned (.agg #[S n.x.key, vp, .int .i64 n.x.st, vf, S n.x.body, .int .i64 n.x.asked, .int .i64 n.x.came]) ∧ w'.ownsRow w.heap.size 53 3 vp n.x.lp.length (fcells n.x.lp) ∧ w'.ownsRow w.heap.size 62 3 vf n.x.lf.length (fcells n.x.lf) ∧ Below w.heap.size w w' := by
  have h1 := fsum_length n.x.lp
  have h2 := fsum_length n.x.lf
  unfold It.cost at hc
  exact copied_any n.en n.x.lp n.x.lf w (Fs.own h.1) (Fs.own h.2) (by omega) (by omega)

set_option linter.unusedSimpArgs false in
set_option linter.unusedVariables false in
set_option linter.unnecessarySimpa false in
theorem ret_at {W : World} {tmps : Array Value} {b : Nat} {v0 v1 v2 v3 v4 v5 v6 : Value} {c : Bool} {R : Ending → World → Prop} (hs : tmps[4]? = some (.pointer (some ⟨b, 0, none⟩))) (hc : tmps[5]? = some (.bool c)) (h : Blk W b 36 #[v0, v1, v2, v3, v4, v5, v6]) (hR : R (.returned (.tuple #[.agg #[v0, v1, v2, v3, v4, v5, v6], .bool c])) W) :
    bodyPost Tryd.prog Tryd.f18 R .ret { tmps := tmps, defers := [] } W := by
  (have g0 : W.cell? ⟨b, 0, none⟩ = some (v0) := h.cell 0; have g1 : W.cell? ⟨b, 1, none⟩ = some (v1) := h.cell 1; have g2 : W.cell? ⟨b, 2, none⟩ = some (v2) := h.cell 2; have g3 : W.cell? ⟨b, 3, none⟩ = some (v3) := h.cell 3; have g4 : W.cell? ⟨b, 4, none⟩ = some (v4) := h.cell 4; have g5 : W.cell? ⟨b, 5, none⟩ = some (v5) := h.cell 5; have g6 : W.cell? ⟨b, 6, none⟩ = some (v6) := h.cell 6)
  exact bodyPost_ret (v := .tuple #[.agg #[v0, v1, v2, v3, v4, v5, v6], .bool c]) (by simp [results, Tryd.results18, go_sem, hs, hc, g0, g1, g2, g3, g4, g5, g6]) rfl hR

set_option linter.unusedSimpArgs false in
set_option linter.unusedVariables false in
set_option linter.unnecessarySimpa false in
theorem nd_one {l : List Nd} (h : (l.map fun n => n.x.id).Nodup) {a b : Nd} (ha : a ∈ l) (hb : b ∈ l) (e : a.x.id = b.x.id) : a = b := by
  induction l with
  | nil => cases ha
  | cons n l ih =>
    rw [List.map_cons, List.nodup_cons] at h
    rcases List.mem_cons.1 ha with ha | ha <;> rcases List.mem_cons.1 hb with hb | hb
    · rw [ha, hb]
    · exact (h.1 (by rw [← ha, e]; exact List.mem_map_of_mem (f := fun n : Nd => n.x.id) hb)).elim
    · exact (h.1 (by rw [← hb, ← e]; exact List.mem_map_of_mem (f := fun n : Nd => n.x.id) ha)).elim
    · exact ih h.2 ha hb
abbrev Ez : Array Value := #[S [], .slice none 0 0, .int .i64 0, .slice none 0 0, S [], .int .i64 0, .int .i64 0]

set_option linter.unusedSimpArgs false in
set_option linter.unusedVariables false in
set_option linter.unnecessarySimpa false in
set_option maxRecDepth 100000 in
set_option maxHeartbeats 4000000 in
theorem At_some (fb rb s R m : Nat) (most last : Int) (a b : List Nd) (n : Nd) (w : World) (h : Sh fb rb w s R m most last (a ++ n :: b)) (hw : (Lit.int .i64 n.x.id).wf = true) :
    Calls Tryd.prog 18 #[Ptr s, .int .i64 n.x.id] w fun e w' => ∃ v, e = .returned (.tuple #[v, .bool true]) ∧ RetE n.x w.heap.size v w' ∧ Below w.heap.size w w' := by
  obtain ⟨w0, ew⟩ : ∃ w0 : World, w0 = w.alloc (.cells Ez 36) := ⟨_, rfl⟩
  have hb0 : Below w.heap.size w w0 := by rw [ew]; exact (Below.refl _ _).alloc (Nat.le_refl _) _
  have hZ : Blk w0 w.heap.size 36 Ez := by rw [ew]; exact Blk.new _ _ _
  have hs0 := h.below hb0
  have hat := hs0.at
  have x4 : w0.cell? ⟨s, 4, none⟩ = some (.map (some m)) := hs0.blk.cell 4
  have hC := copied_nd n w0 (hs0.rows n (by simp)) (hs0.cost_le (by simp))
  have hlk : (Instr.lookup 58 (.map (some m)) (.int .i64 n.x.id) true).run Tryd.prog w0 = .ok (.tuple #[Ptr n.b, .bool true]) w0 := by
    rcases hs0.map.look (t := 58) Tryd.underlying3 Tryd.underlying58 (zeroLink w0) n.x.id hw with ⟨g, hm, e⟩ | ⟨hn, -⟩
    · obtain ⟨n', hn', e'⟩ := List.mem_map.1 hm
      have h1 : n'.x.id = n.x.id := congrArg Prod.fst e'
      have h2 : n'.b = g := congrArg Prod.snd e'
      have hid := hs0.ids
      have : n' = n := by
        exact nd_one hid hn' (by simp) h1
      rw [e, ← h2, this]
    · exact absurd rfl (hn (n.x.id, n.b) (by simp))
  have y2 : w0.cell? ⟨n.b, 2, none⟩ = some (S n.x.key) := hat.cell 2
  have y3 : w0.cell? ⟨n.b, 3, none⟩ = some n.vp := hat.cell 3
  have y4 : w0.cell? ⟨n.b, 4, none⟩ = some (.int .i64 n.x.st) := hat.cell 4
  have y5 : w0.cell? ⟨n.b, 5, none⟩ = some n.vf := hat.cell 5
  have y6 : w0.cell? ⟨n.b, 6, none⟩ = some (S n.x.body) := hat.cell 6
  have y7 : w0.cell? ⟨n.b, 7, none⟩ = some (.int .i64 n.x.asked) := hat.cell 7
  have y8 : w0.cell? ⟨n.b, 8, none⟩ = some (.int .i64 n.x.came) := hat.cell 8
  clear h hs0 hat
  go_enter Tryd.func18, Tryd.ntmps18
  go_upto_region 3 with fail
  rw [← ew]
  clear ew
  go_wp2_with fail
  refine hC.mono ?_
  rintro e w1 ⟨vp, vf, rfl, o1, o2, hb1⟩
  obtain ⟨ap, kp, rfl, -⟩ := (Fs.own o1).form
  obtain ⟨af, kf, rfl, -⟩ := (Fs.own o2).form
  have hZ1 := hZ.on hb1
  (have z0 : w1.cell? ⟨w.heap.size, 0, none⟩ = some (S []) := hZ1.cell 0; have z1 : w1.cell? ⟨w.heap.size, 1, none⟩ = some (.slice none 0 0) := hZ1.cell 1; have z2 : w1.cell? ⟨w.heap.size, 2, none⟩ = some (.int .i64 0) := hZ1.cell 2; have z3 : w1.cell? ⟨w.heap.size, 3, none⟩ = some (.slice none 0 0) := hZ1.cell 3; have z4 : w1.cell? ⟨w.heap.size, 4, none⟩ = some (S []) := hZ1.cell 4; have z5 : w1.cell? ⟨w.heap.size, 5, none⟩ = some (.int .i64 0) := hZ1.cell 5; have z6 : w1.cell? ⟨w.heap.size, 6, none⟩ = some (.int .i64 0) := hZ1.cell 6)
  have f0 := hZ1.free 0
  have f1 := hZ1.free 1
  have f2 := hZ1.free 2
  have f3 := hZ1.free 3
  have f4 := hZ1.free 4
  have f5 := hZ1.free 5
  have f6 := hZ1.free 6
  go_wp2
  have hB5 := hZ1.put7 (S n.x.key) (.slice ap n.x.lp.length kp) (.int .i64 n.x.st) (.slice af n.x.lf.length kf) (S n.x.body) (.int .i64 n.x.asked) (.int .i64 n.x.came)
  have hlt := hZ.lt
  refine ret_at (b := w.heap.size) (c := true) ?_ ?_ hB5 ?_
  · rfl
  · rfl
  · exact ⟨_, rfl, RetE.low (RetE.put7 ⟨_, _, rfl, o1, o2⟩ hlt _ _ _ _ _ _ _) hb0.size, put7_below (Bl.tr hb0 hb1) (Nat.le_refl _) _ _ _ _ _ _ _⟩

set_option linter.unusedSimpArgs false in
set_option linter.unusedVariables false in
set_option linter.unnecessarySimpa false in
set_option maxRecDepth 100000 in
set_option maxHeartbeats 4000000 in
theorem At_none (fb rb s R m : Nat) (most last : Int) (l : List Nd) (w : World) (h : Sh fb rb w s R m most last l) (i : Int) (hi : ∀ n ∈ l, n.x.id ≠ i) (hw : (Lit.int .i64 i).wf = true) :
    Calls Tryd.prog 18 #[Ptr s, .int .i64 i] w fun e w' => e = .returned (.tuple #[entZ, .bool false]) ∧ Below w.heap.size w w' := by
  obtain ⟨w0, ew⟩ : ∃ w0 : World, w0 = w.alloc (.cells Ez 36) := ⟨_, rfl⟩
  have hb0 : Below w.heap.size w w0 := by rw [ew]; exact (Below.refl _ _).alloc (Nat.le_refl _) _
  have hZ : Blk w0 w.heap.size 36 Ez := by rw [ew]; exact Blk.new _ _ _
  have hs0 := h.below hb0
  have x4 : w0.cell? ⟨s, 4, none⟩ = some (.map (some m)) := hs0.blk.cell 4
  have hlk : (Instr.lookup 58 (.map (some m)) (.int .i64 i) true).run Tryd.prog w0 = .ok (.tuple #[.pointer none, .bool false]) w0 := by
    rcases hs0.map.look (t := 58) Tryd.underlying3 Tryd.underlying58 (zeroLink w0) i hw with ⟨g, hm, e⟩ | ⟨-, e⟩
    · obtain ⟨n', hn', e'⟩ := List.mem_map.1 hm
      exact absurd (congrArg Prod.fst e') (hi n' hn')
    · exact e
  (have z0 : w0.cell? ⟨w.heap.size, 0, none⟩ = some (S []) := hZ.cell 0; have z1 : w0.cell? ⟨w.heap.size, 1, none⟩ = some (.slice none 0 0) := hZ.cell 1; have z2 : w0.cell? ⟨w.heap.size, 2, none⟩ = some (.int .i64 0) := hZ.cell 2; have z3 : w0.cell? ⟨w.heap.size, 3, none⟩ = some (.slice none 0 0) := hZ.cell 3; have z4 : w0.cell? ⟨w.heap.size, 4, none⟩ = some (S []) := hZ.cell 4; have z5 : w0.cell? ⟨w.heap.size, 5, none⟩ = some (.int .i64 0) := hZ.cell 5; have z6 : w0.cell? ⟨w.heap.size, 6, none⟩ = some (.int .i64 0) := hZ.cell 6)
  have f0 := hZ.free 0
  have f1 := hZ.free 1
  have f2 := hZ.free 2
  have f3 := hZ.free 3
  have f4 := hZ.free 4
  have f5 := hZ.free 5
  have f6 := hZ.free 6
  clear h hs0
  go_enter Tryd.func18, Tryd.ntmps18
  go_upto_region 3 with fail
  rw [← ew]
  clear ew
  go_wp2
  have hB5 := hZ.put7 (S []) (.slice none 0 0) (.int .i64 0) (.slice none 0 0) (S []) (.int .i64 0) (.int .i64 0)
  refine ret_at (b := w.heap.size) (c := false) ?_ ?_ hB5 ?_
  · rfl
  · rfl
  · exact ⟨rfl, put7_below hb0 (Nat.le_refl _) _ _ _ _ _ _ _⟩
end Go.Proofs.YtnflihjgbkocnaaDoor
