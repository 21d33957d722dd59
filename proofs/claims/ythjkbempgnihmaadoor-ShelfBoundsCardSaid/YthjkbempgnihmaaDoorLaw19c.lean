
/- The walk of a law of layer 19: of no shelf nothing is told. -/
import Derived.Test.YthjkbempgnihmaaDoorLaw19a
import Derived.Test.YthjkbempgnihmaaDoorLaw19b
import Derived.Test.YthjkbempgnihmaaDoorShf4
import Derived.Test.YthjkbempgnihmaaDoorShf5
namespace Go.Proofs.YthjkbempgnihmaaDoor
open Go.RowKit Go.Dr

set_option linter.unusedSimpArgs false in
set_option linter.unusedVariables false in
set_option linter.unnecessarySimpa false in
/-- A script of one step, as a literal. -/
theorem one_Ds (w w1 : World) (d : Dv) (hw : w.heap.size ≤ w1.heap.size) (h1 : Fs w1.heap.size w1 d.q.vp d.lp) (h2 : Fs w1.heap.size w1 d.q.vf d.lf) (h3 : Fs w1.heap.size w1 d.vl d.ll) :
    Ds (w1.alloc (.cells #[.int .i64 d.kind, .int .i64 d.num, S d.q.key, d.q.vp, .int .i64 d.q.st, d.q.vf, S d.q.body, .int .i64 d.q.asked, .int .i64 d.q.came, d.vl] 30)).heap.size (w1.alloc (.cells #[.int .i64 d.kind, .int .i64 d.num, S d.q.key, d.q.vp, .int .i64 d.q.st, d.q.vf, S d.q.body, .int .i64 d.q.asked, .int .i64 d.q.came, d.vl] 30)) (.slice (some ⟨w1.heap.size, 0, none⟩) 1 1) [d] := by
  have hb : Below w1.heap.size w1 (w1.alloc (.cells #[.int .i64 d.kind, .int .i64 d.num, S d.q.key, d.q.vp, .int .i64 d.q.st, d.q.vf, S d.q.body, .int .i64 d.q.asked, .int .i64 d.q.came, d.vl] 30)) := (Below.refl _ _).alloc (Nat.le_refl _) _
  refine ⟨?_, fun x hx => ?_⟩
  · have := Rd.lit w1 30 #[.int .i64 d.kind, .int .i64 d.num, S d.q.key, d.q.vp, .int .i64 d.q.st, d.q.vf, S d.q.body, .int .i64 d.q.asked, .int .i64 d.q.came, d.vl] 10 1 rfl (by decide)
    exact this.mono (by simp)
  · rw [List.mem_singleton.1 hx]
    exact ⟨(h1.below hb).mono hb.size, (h2.below hb).mono hb.size, (h3.below hb).mono hb.size⟩

set_option linter.unusedSimpArgs false in
set_option linter.unusedVariables false in
set_option linter.unnecessarySimpa false in
set_option maxRecDepth 100000 in
set_option maxHeartbeats 8000000 in
theorem none_law (i : Int) (q : En) (lp lf : List F) (w : World) (hp : Fs w.heap.size w q.vp lp) (hf : Fs w.heap.size w q.vf lf) (hok : (⟨0, 0, q, .slice none 0 0, lp, lf, []⟩ : Dv).Ok) :
    Calls Tryd.prog 7 #[.int .i64 i, q.val] w fun e w' => e = .returned (.bool true) ∧ Below w.heap.size w w' := by
  obtain ⟨ap, kp, hvp, -⟩ := hp.form
  obtain ⟨af, kf, hvf, -⟩ := hf.form
  obtain ⟨key, vp, st, vf, body, asked, came⟩ := q
  simp only [En.val] at *
  subst hvp hvf
  obtain ⟨w0, ew⟩ : ∃ w0 : World, w0 = w.alloc (.cells #[S key, .slice ap lp.length kp, .int .i64 st, .slice af lf.length kf, S body, .int .i64 asked, .int .i64 came] 28) := ⟨_, rfl⟩
  have hb0 : Below w.heap.size w w0 := by rw [ew]; exact (Below.refl _ _).alloc (Nat.le_refl _) _
  have hE0 : Blk w0 w.heap.size 28 #[S key, .slice ap lp.length kp, .int .i64 st, .slice af lf.length kf, S body, .int .i64 asked, .int .i64 came] := by rw [ew]; exact Blk.new _ _ _
  go_enter Tryd.func7, Tryd.ntmps7
  go_upto_region 1 with fail
  rw [← ew]
  clear ew
  go_wp2_with fail
  refine (awake19_any w0).mono ?_
  rintro e w1 ⟨rfl, hb1⟩
  have hE1 := hE0.on hb1
  have hw1 := Bl.tr hb0 hb1
  have hp1 := (hp.below hw1).mono hw1.size
  have hf1 := (hf.below hw1).mono hw1.size
  (have x0 : w1.cell? ⟨w.heap.size, 0, none⟩ = some (S key) := hE1.cell 0; have x1 : w1.cell? ⟨w.heap.size, 1, none⟩ = some (.slice ap lp.length kp) := hE1.cell 1; have x2 : w1.cell? ⟨w.heap.size, 2, none⟩ = some (.int .i64 st) := hE1.cell 2; have x3 : w1.cell? ⟨w.heap.size, 3, none⟩ = some (.slice af lf.length kf) := hE1.cell 3; have x4 : w1.cell? ⟨w.heap.size, 4, none⟩ = some (S body) := hE1.cell 4; have x5 : w1.cell? ⟨w.heap.size, 5, none⟩ = some (.int .i64 asked) := hE1.cell 5; have x6 : w1.cell? ⟨w.heap.size, 6, none⟩ = some (.int .i64 came) := hE1.cell 6)
  go_wp2_with fail
  have hD := one_Ds w w1 ⟨0, 0, ⟨key, .slice ap lp.length kp, st, .slice af lf.length kf, body, asked, came⟩, .slice none 0 0, lp, lf, []⟩ hw1.size hp1 hf1 (Rd.nil _ _ _)
  refine (few19_any _ _ _ hD (by intro d hd; rw [List.mem_singleton.1 hd]; exact hok)).mono ?_
  rintro e w2 ⟨b, rfl, -, hb2⟩
  have hw1a : Below w.heap.size w (w1.alloc (.cells #[.int .i64 0, .int .i64 0, S key, .slice ap lp.length kp, .int .i64 st, .slice af lf.length kf, S body, .int .i64 asked, .int .i64 came, .slice none 0 0] 30)) := hw1.alloc hw1.size _
  have hE2 := (hE1.alloc (.cells #[.int .i64 0, .int .i64 0, S key, .slice ap lp.length kp, .int .i64 st, .slice af lf.length kf, S body, .int .i64 asked, .int .i64 came, .slice none 0 0] 30)).on hb2
  have hw2 := Bl.tr hw1a hb2
  clear hD hE1 hw1 hw1a hb1 hb2 hp1 hf1 x0 x1 x2 x3 x4 x5 x6 hE0 hb0 hok hp hf
  cases b with
  | false =>
    go_wp2
    go_ret
    exact ⟨rfl, hw2⟩
  | true =>
    (have x0 : w2.cell? ⟨w.heap.size, 0, none⟩ = some (S key) := hE2.cell 0; have x1 : w2.cell? ⟨w.heap.size, 1, none⟩ = some (.slice ap lp.length kp) := hE2.cell 1; have x2 : w2.cell? ⟨w.heap.size, 2, none⟩ = some (.int .i64 st) := hE2.cell 2; have x3 : w2.cell? ⟨w.heap.size, 3, none⟩ = some (.slice af lf.length kf) := hE2.cell 3; have x4 : w2.cell? ⟨w.heap.size, 4, none⟩ = some (S body) := hE2.cell 4; have x5 : w2.cell? ⟨w.heap.size, 5, none⟩ = some (.int .i64 asked) := hE2.cell 5; have x6 : w2.cell? ⟨w.heap.size, 6, none⟩ = some (.int .i64 came) := hE2.cell 6)
    go_wp2_with fail
    refine (Put_nil _ _ rfl rfl w2).mono ?_
    rintro e w3 ⟨rfl, hb3⟩
    have hE3 := hE2.on hb3
    have hw3 := Bl.tr hw2 hb3
    clear x0 x1 x2 x3 x4 x5 x6 hE2 hw2 hb3
    have x0 : w3.cell? ⟨w.heap.size, 0, none⟩ = some (S key) := hE3.cell 0
    have x3 : w3.cell? ⟨w.heap.size, 3, none⟩ = some (.slice af lf.length kf) := hE3.cell 3
    go_wp2_with fail
    refine (Find_nil key _ w3).mono ?_
    rintro e w4 ⟨rfl, hb4⟩
    obtain ⟨w4a, ea⟩ : ∃ w4a : World, w4a = w4.alloc (.cells Ez 28) := ⟨_, rfl⟩
    have hX4 : Blk w4a w4.heap.size 28 Ez := by rw [ea]; exact Blk.new _ _ _
    have hE4 := (hE3.on hb4).alloc (.cells Ez 28)
    rw [← ea] at hE4
    have hw4 : Below w.heap.size w w4a := by rw [ea]; exact (Bl.tr hw3 hb4).alloc (Bl.tr hw3 hb4).size _
    obtain ⟨X, eX⟩ : ∃ X, X = w4.heap.size := ⟨_, rfl⟩
    rw [← eX] at hX4
    have HA := Lib.hid ea
    have HX := Lib.hid eX
    clear x0 x3 hE3 hw3 hb4 ea eX
    go_upto_region 8 with fail
    rw [← HX.out, ← HA.out]
    clear HA HX
    go_wp2_with fail
    refine (At_nil i w4a).mono ?_
    rintro e w5 ⟨rfl, hb5⟩
    obtain ⟨w5a, ea⟩ : ∃ w5a : World, w5a = w5.alloc (.cells Ez 28) := ⟨_, rfl⟩
    have hY5 : Blk w5a w5.heap.size 28 Ez := by rw [ea]; exact Blk.new _ _ _
    have hE5 := (hE4.on hb5).alloc (.cells Ez 28)
    rw [← ea] at hE5
    have hX5 := (hX4.on hb5).alloc (.cells Ez 28)
    rw [← ea] at hX5
    have hw5 : Below w.heap.size w w5a := by rw [ea]; exact (Bl.tr hw4 hb5).alloc (Bl.tr hw4 hb5).size _
    obtain ⟨Y, eY⟩ : ∃ Y, Y = w5.heap.size := ⟨_, rfl⟩
    rw [← eY] at hY5
    have HA := Lib.hid ea
    have HY := Lib.hid eY
    clear hE4 hX4 hw4 hb5 ea eY
    go_upto_region 9 with fail
    rw [← HY.out, ← HA.out]
    clear HA HY
    (have x0 : w5a.cell? ⟨X, 0, none⟩ = some (S []) := hX5.cell 0; have x1 : w5a.cell? ⟨X, 1, none⟩ = some (.slice none 0 0) := hX5.cell 1; have x2 : w5a.cell? ⟨X, 2, none⟩ = some (.int .i64 0) := hX5.cell 2; have x3 : w5a.cell? ⟨X, 3, none⟩ = some (.slice none 0 0) := hX5.cell 3; have x4 : w5a.cell? ⟨X, 4, none⟩ = some (S []) := hX5.cell 4; have x5 : w5a.cell? ⟨X, 5, none⟩ = some (.int .i64 0) := hX5.cell 5; have x6 : w5a.cell? ⟨X, 6, none⟩ = some (.int .i64 0) := hX5.cell 6)
    go_wp2_with fail
    refine (Same_zero w5a).mono ?_
    rintro e w6 ⟨rfl, hb6⟩
    have hE6 := hE5.on hb6
    have hY6 := hY5.on hb6
    have hw6 := Bl.tr hw5 hb6
    clear x0 x1 x2 x3 x4 x5 x6 hE5 hY5 hX5 hw5 hb6
    (have x0 : w6.cell? ⟨Y, 0, none⟩ = some (S []) := hY6.cell 0; have x1 : w6.cell? ⟨Y, 1, none⟩ = some (.slice none 0 0) := hY6.cell 1; have x2 : w6.cell? ⟨Y, 2, none⟩ = some (.int .i64 0) := hY6.cell 2; have x3 : w6.cell? ⟨Y, 3, none⟩ = some (.slice none 0 0) := hY6.cell 3; have x4 : w6.cell? ⟨Y, 4, none⟩ = some (S []) := hY6.cell 4; have x5 : w6.cell? ⟨Y, 5, none⟩ = some (.int .i64 0) := hY6.cell 5; have x6 : w6.cell? ⟨Y, 6, none⟩ = some (.int .i64 0) := hY6.cell 6)
    go_wp2_with fail
    refine (Same_zero w6).mono ?_
    rintro e w7 ⟨rfl, hb7⟩
    have hE7 := hE6.on hb7
    have hw7 := Bl.tr hw6 hb7
    clear x0 x1 x2 x3 x4 x5 x6 hE6 hY6 hw6 hb7
    (have x0 : w7.cell? ⟨w.heap.size, 0, none⟩ = some (S key) := hE7.cell 0; have x1 : w7.cell? ⟨w.heap.size, 1, none⟩ = some (.slice ap lp.length kp) := hE7.cell 1; have x2 : w7.cell? ⟨w.heap.size, 2, none⟩ = some (.int .i64 st) := hE7.cell 2; have x3 : w7.cell? ⟨w.heap.size, 3, none⟩ = some (.slice af lf.length kf) := hE7.cell 3; have x4 : w7.cell? ⟨w.heap.size, 4, none⟩ = some (S body) := hE7.cell 4; have x5 : w7.cell? ⟨w.heap.size, 5, none⟩ = some (.int .i64 asked) := hE7.cell 5; have x6 : w7.cell? ⟨w.heap.size, 6, none⟩ = some (.int .i64 came) := hE7.cell 6)
    go_wp2_with fail
    refine (Set_nil i _ _ rfl rfl w7).mono ?_
    rintro e w8 ⟨rfl, hb8⟩
    have hE8 := hE7.on hb8
    have hw8 := Bl.tr hw7 hb8
    clear x0 x1 x2 x3 x4 x5 x6 hE7 hw7 hb8
    have x0 : w8.cell? ⟨w.heap.size, 0, none⟩ = some (S key) := hE8.cell 0
    go_wp2_with fail
    refine (Forget_nil key w8).mono ?_
    rintro e w9 ⟨rfl, hb9⟩
    have hw9 := Bl.tr hw8 hb9
    clear x0 hE8 hw8 hb9
    go_wp2_with fail
    refine (Bytes_nil w9).mono ?_
    rintro e w9b ⟨rfl, e9⟩
    rw [e9]
    clear e9 w9b
    go_wp2_with fail
    refine (Len_nil w9).mono ?_
    rintro e w9b ⟨rfl, e9⟩
    rw [e9]
    clear e9 w9b
    go_wp2_with fail
    refine (All_nil w9).mono ?_
    rintro e w10 ⟨rfl, hb10⟩
    have hw10 := Bl.tr hw9 hb10
    go_wp2
    go_ret
    exact ⟨rfl, hw10⟩
end Go.Proofs.YthjkbempgnihmaaDoor
