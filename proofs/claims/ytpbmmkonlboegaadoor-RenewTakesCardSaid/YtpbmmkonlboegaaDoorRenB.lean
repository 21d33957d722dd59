
/- The walks of layer 19's reference: two answers that are the same. And: a row of the call's own, written over. -/
import Derived.Test.YtpbmmkonlboegaaDoorRenA
namespace Go.Dr
open Go.RowKit
/-- A row of the call's own may be written over, cell by cell. -/
theorem own_poke {w : World} {base : Nat} {e : TypeId} {size : Nat} {v : Value} {n : Nat} {xs : List Value} (h : w.ownsRow base e size v n xs) (hn : 0 < n) :
    ∃ g cap, v = .slice (some ⟨g, 0, none⟩) n cap ∧ base ≤ g ∧ g < w.heap.size ∧ n ≤ cap ∧ ∀ j, j < n * size → (∃ u, w.cell? ⟨g, j, none⟩ = some u) ∧ w.frozen? ⟨g, j, none⟩ = false ∧ ∀ u, ∃ xs', (w.setCell ⟨g, j, none⟩ u).ownsRow base e size v n xs' := by
  rcases h.2 with ⟨_, h0⟩ | ⟨g, cap, cur, rfl, hb, hg, h1, h2, h3, h4⟩
  · omega
  · have hle := Nat.mul_le_mul_right size h1
    refine ⟨g, cap, rfl, hb, (Array.getElem?_eq_some_iff.1 hg).1, h1, fun j hj => ⟨⟨cur[j]'(by omega), ?_⟩, ?_, fun u => ⟨((cur.setIfInBounds j u).toList.take (n * size)), ?_⟩⟩⟩
    · rw [cell_of_row w g j cur e (0, 0) hg]
      exact Array.getElem?_eq_getElem (by omega)
    · simp [World.frozen?, hg]
    · refine ⟨by simp; omega, .inr ⟨g, cap, cur.setIfInBounds j u, rfl, hb, ?_, h1, h2, by simpa using h3, rfl⟩⟩
      simp only [World.setCell, Array.getElem?_modify, if_true, hg]
      simp
end Go.Dr
namespace Go.Proofs.YtpbmmkonlboegaaDoor
open Go.RowKit Go.Dr

theorem PSame_at20 (a : List F) (va vb : Value) (w : World) (ha : Fs w.heap.size w va a) (hb : Fs w.heap.size w vb a) :
    Calls Tryd.prog 32 #[va, vb] w fun e w' => e = .returned (.bool true) ∧ Below w.heap.size w w' :=
  (PSame_any a a va vb w ha hb).mono fun _ _ ⟨h1, h2⟩ => ⟨by rw [h1, beq_self_eq_true], h2⟩
theorem Fields_at20 (a : List F) (va vb : Value) (w : World) (ha : Fs w.heap.size w va a) (hb : Fs w.heap.size w vb a) :
    Calls Tryd.prog 13 #[va, vb] w fun e w' => e = .returned (.bool true) ∧ Below w.heap.size w w' :=
  (Fields_any a a va vb w ha hb).mono fun _ _ ⟨h1, h2⟩ => ⟨by rw [h1, beq_self_eq_true], h2⟩

set_option maxRecDepth 100000 in
set_option maxHeartbeats 4000000 in
theorem EntSame_at (key body : Bytes) (st a c : Int) (lp lf : List F) (vp1 vf1 vp2 vf2 : Value) (w : World) (hp1 : Fs w.heap.size w vp1 lp) (hf1 : Fs w.heap.size w vf1 lf) (hp2 : Fs w.heap.size w vp2 lp) (hf2 : Fs w.heap.size w vf2 lf) :
    Calls Tryd.prog 28 #[.agg #[S key, vp1, .int .i64 st, vf1, S body, .int .i64 a, .int .i64 c], .agg #[S key, vp2, .int .i64 st, vf2, S body, .int .i64 a, .int .i64 c]] w fun e w' => e = .returned (.bool true) ∧ Below w.heap.size w w' := by
  obtain ⟨p1, k1, rfl, -⟩ := hp1.form
  obtain ⟨f1, m1, rfl, -⟩ := hf1.form
  obtain ⟨p2, k2, rfl, -⟩ := hp2.form
  obtain ⟨f2, m2, rfl, -⟩ := hf2.form
  have hA := Blk.new w 25 #[S key, .slice p1 lp.length k1, .int .i64 st, .slice f1 lf.length m1, S body, .int .i64 a, .int .i64 c]
  have hbx : Below w.heap.size w (w.alloc (.cells #[S key, .slice p1 lp.length k1, .int .i64 st, .slice f1 lf.length m1, S body, .int .i64 a, .int .i64 c] 25)) := (Below.refl _ _).alloc (Nat.le_refl _) _
  have hB := Blk.new (w.alloc (.cells #[S key, .slice p1 lp.length k1, .int .i64 st, .slice f1 lf.length m1, S body, .int .i64 a, .int .i64 c] 25)) 25 #[S key, .slice p2 lp.length k2, .int .i64 st, .slice f2 lf.length m2, S body, .int .i64 a, .int .i64 c]
  have hsz : (w.alloc (.cells #[S key, .slice p1 lp.length k1, .int .i64 st, .slice f1 lf.length m1, S body, .int .i64 a, .int .i64 c] 25)).heap.size = w.heap.size + 1 := by simp
  rw [hsz] at hB
  have hby := hbx.alloc hbx.size (.cells #[S key, .slice p2 lp.length k2, .int .i64 st, .slice f2 lf.length m2, S body, .int .i64 a, .int .i64 c] 25)
  have hA1 := hA.alloc (.cells #[S key, .slice p2 lp.length k2, .int .i64 st, .slice f2 lf.length m2, S body, .int .i64 a, .int .i64 c] 25)
  have hp1' := (hp1.below hby).mono hby.size
  have hp2' := (hp2.below hby).mono hby.size
  have hf1' := (hf1.below hby).mono hby.size
  have hf2' := (hf2.below hby).mono hby.size
  clear hbx hA hsz hp1 hf1 hp2 hf2
  go_enter Tryd.func28, Tryd.ntmps28
  go_wp2_with fail
  generalize (w.alloc (.cells #[S key, .slice p1 lp.length k1, .int .i64 st, .slice f1 lf.length m1, S body, .int .i64 a, .int .i64 c] 25)).alloc (.cells #[S key, .slice p2 lp.length k2, .int .i64 st, .slice f2 lf.length m2, S body, .int .i64 a, .int .i64 c] 25) = w1 at *
  refine (PSame_at20 lp _ _ w1 hp1' hp2').mono ?_
  rintro e w2 ⟨rfl, hb2⟩
  have hw2 := Bl.tr hby hb2
  have hA2 := hA1.on hb2
  have hB2 := hB.on hb2
  have g1 := (hf1'.below hb2).mono hb2.size
  have g2 := (hf2'.below hb2).mono hb2.size
  clear hby hA1 hB hp1' hp2' hf1' hf2' hb2
  have x0 : w2.cell? ⟨w.heap.size, 0, none⟩ = some (S key) := hA2.cell 0
  have x1 : w2.cell? ⟨w.heap.size, 1, none⟩ = some (.slice p1 lp.length k1) := hA2.cell 1
  have x2 : w2.cell? ⟨w.heap.size, 2, none⟩ = some (.int .i64 st) := hA2.cell 2
  have x3 : w2.cell? ⟨w.heap.size, 3, none⟩ = some (.slice f1 lf.length m1) := hA2.cell 3
  have x4 : w2.cell? ⟨w.heap.size, 4, none⟩ = some (S body) := hA2.cell 4
  have x5 : w2.cell? ⟨w.heap.size, 5, none⟩ = some (.int .i64 a) := hA2.cell 5
  have x6 : w2.cell? ⟨w.heap.size, 6, none⟩ = some (.int .i64 c) := hA2.cell 6
  have y0 : w2.cell? ⟨w.heap.size + 1, 0, none⟩ = some (S key) := hB2.cell 0
  have y1 : w2.cell? ⟨w.heap.size + 1, 1, none⟩ = some (.slice p2 lp.length k2) := hB2.cell 1
  have y2 : w2.cell? ⟨w.heap.size + 1, 2, none⟩ = some (.int .i64 st) := hB2.cell 2
  have y3 : w2.cell? ⟨w.heap.size + 1, 3, none⟩ = some (.slice f2 lf.length m2) := hB2.cell 3
  have y4 : w2.cell? ⟨w.heap.size + 1, 4, none⟩ = some (S body) := hB2.cell 4
  have y5 : w2.cell? ⟨w.heap.size + 1, 5, none⟩ = some (.int .i64 a) := hB2.cell 5
  have y6 : w2.cell? ⟨w.heap.size + 1, 6, none⟩ = some (.int .i64 c) := hB2.cell 6
  go_wp2_with fail
  refine (Fields_at20 lf _ _ w2 g1 g2).mono ?_
  rintro e w3 ⟨rfl, hb3⟩
  have hw3 := Bl.tr hw2 hb3
  have hA3 := hA2.on hb3
  have hB3 := hB2.on hb3
  clear hw2 hA2 hB2 g1 g2 hb3 x0 x1 x2 x3 x4 x5 x6 y0 y1 y2 y3 y4 y5 y6
  have x0 : w3.cell? ⟨w.heap.size, 0, none⟩ = some (S key) := hA3.cell 0
  have x1 : w3.cell? ⟨w.heap.size, 1, none⟩ = some (.slice p1 lp.length k1) := hA3.cell 1
  have x2 : w3.cell? ⟨w.heap.size, 2, none⟩ = some (.int .i64 st) := hA3.cell 2
  have x3 : w3.cell? ⟨w.heap.size, 3, none⟩ = some (.slice f1 lf.length m1) := hA3.cell 3
  have x4 : w3.cell? ⟨w.heap.size, 4, none⟩ = some (S body) := hA3.cell 4
  have x5 : w3.cell? ⟨w.heap.size, 5, none⟩ = some (.int .i64 a) := hA3.cell 5
  have x6 : w3.cell? ⟨w.heap.size, 6, none⟩ = some (.int .i64 c) := hA3.cell 6
  have y0 : w3.cell? ⟨w.heap.size + 1, 0, none⟩ = some (S key) := hB3.cell 0
  have y1 : w3.cell? ⟨w.heap.size + 1, 1, none⟩ = some (.slice p2 lp.length k2) := hB3.cell 1
  have y2 : w3.cell? ⟨w.heap.size + 1, 2, none⟩ = some (.int .i64 st) := hB3.cell 2
  have y3 : w3.cell? ⟨w.heap.size + 1, 3, none⟩ = some (.slice f2 lf.length m2) := hB3.cell 3
  have y4 : w3.cell? ⟨w.heap.size + 1, 4, none⟩ = some (S body) := hB3.cell 4
  have y5 : w3.cell? ⟨w.heap.size + 1, 5, none⟩ = some (.int .i64 a) := hB3.cell 5
  have y6 : w3.cell? ⟨w.heap.size + 1, 6, none⟩ = some (.int .i64 c) := hB3.cell 6
  go_wp2
  go_ret
  exact ⟨rfl, hw3⟩
end Go.Proofs.YtpbmmkonlboegaaDoor
