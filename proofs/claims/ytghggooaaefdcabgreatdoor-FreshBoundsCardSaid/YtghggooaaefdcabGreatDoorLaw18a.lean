
/- The walks of the statements of layer 18: what is fixed, and what is small. -/
import Derived.Test.YtghggooaaefdcabGreatDoorFrs2
import Derived.Test.YtghggooaaefdcabGreatDoorOct
namespace Go.Proofs.YtghggooaaefdcabGreatDoor
open Go.RowKit Go.Dr

/-- Few enough. -/
def smallB (l : List F) : Bool := decide (fbytes l < 8192)
theorem smallB_sum {l : List F} (h : smallB l = true) : fsum l ≤ 8191 := by
  have h1 : fbytes l < 8192 := by simpa [smallB] using h
  rw [fbytes_sum l (by omega)]
  omega

set_option maxRecDepth 100000 in
set_option maxHeartbeats 2000000 in
theorem small18_any (a b : List F) (va vb : Value) (w : World) (ha : Fs w.heap.size w va a) (hb : Fs w.heap.size w vb b) (hab : FOk a) (hbb : FOk b) :
    Calls Tryz.prog 6 #[va, vb] w fun e w' => e = .returned (.bool (smallB a && smallB b)) ∧ Below w.heap.size w w' := by
  have HA := Lib.hid hab
  have HB := Lib.hid hbb
  clear hab hbb
  cases hs : smallB a with
  | false =>
    have g : decide ((fbytes a : Int) < 8192) = false := by have : ¬ fbytes a < 8192 := by simpa [smallB] using hs
                                                            rw [decide_eq_false_iff_not]; omega
    clear hs
    go_enter Tryz.func6, Tryz.ntmps6
    go_wp2_with fail
    refine (FBytes_any a va _ ha (fun f hf => by have := HA.out.1 f hf; omega)).mono ?_
    rintro e w1 ⟨rfl, hb1⟩
    go_wp2
    go_ret
    exact ⟨rfl, hb1⟩
  | true =>
    have g : decide ((fbytes a : Int) < 8192) = true := by have : fbytes a < 8192 := by simpa [smallB] using hs
                                                           rw [decide_eq_true_iff]; omega
    have HS : Hid (decide ((fbytes b : Int) < 8192) = smallB b) := by show _ = _; rw [smallB]; congr 1; simp <;> omega
    clear hs
    go_enter Tryz.func6, Tryz.ntmps6
    go_wp2_with fail
    refine (FBytes_any a va _ ha (fun f hf => by have := HA.out.1 f hf; omega)).mono ?_
    rintro e w1 ⟨rfl, hb1⟩
    go_wp2_with fail
    refine (FBytes_any b vb _ ((hb.below hb1).mono hb1.size) (fun f hf => by have := HB.out.1 f hf; omega)).mono ?_
    rintro e w2 ⟨rfl, hb2⟩
    go_wp2
    go_ret
    exact ⟨ret_bool (by rw [← HS.out]; simp), Bl.tr hb1 hb2⟩

theorem Lifetime_at (n : Nat) (q : En) (l : List F) (hn : lifeF l q.st q.came = n) (w : World) (h : Fs w.heap.size w q.vf l) (hl : fsum l ≤ 1099511627776) :
    Calls Tryz.prog 13 #[q.val] w fun e w' => e = .returned (.int .i64 (n : Nat)) ∧ Below w.heap.size w w' := by
  subst hn; exact Lifetime_any q l w h hl
theorem Age_at (n : Nat) (q : En) (l : List F) (now : Int) (hn : ageF l q.asked q.came now = n) (w : World) (h : Fs w.heap.size w q.vf l) (hl : fsum l ≤ 1099511627776) :
    Calls Tryz.prog 12 #[q.val, .int .i64 now] w fun e w' => e = .returned (.int .i64 (n : Nat)) ∧ Below w.heap.size w w' := by
  subst hn; exact Age_any q l now w h hl
theorem Good_at (b : Bool) (r : Rq) (q : En) (lr lf : List F) (now : Int) (hb : goodF lr lf q.st q.asked q.came now = b) (w : World) (hr : Fs w.heap.size w r.v lr) (hf : Fs w.heap.size w q.vf lf) (hl : fsum lr ≤ 1099511627776) (hl2 : fsum lf ≤ 1099511627776) :
    Calls Tryz.prog 11 #[r.val, q.val, .int .i64 now] w fun e w' => e = .returned (.bool b) ∧ Below w.heap.size w w' := by
  subst hb; exact Good_any r q lr lf now w hr hf hl hl2

def wake18 : List F := [⟨cacheControl, [109, 97, 120, 45, 97, 103, 101, 61, 54, 48], false⟩, ⟨[97, 103, 101], [53], false⟩]
theorem wake_life : lifeF wake18 200 102 = 60 := by decide +kernel
theorem wake_age18 : ageF wake18 100 102 110 = 15 := by decide +kernel
theorem wake_good : goodF [] wake18 200 100 102 110 = true := by decide +kernel
theorem wake_bad : goodF [] wake18 200 100 102 155 = false := by decide +kernel

set_option maxRecDepth 100000 in
set_option maxHeartbeats 2000000 in
theorem awake18_any (w : World) : Calls Tryz.prog 5 #[] w fun e w' => e = .returned (.bool true) ∧ Below w.heap.size w w' := by
  obtain ⟨w0, ew⟩ : ∃ w0 : World, w0 = (w.alloc (.cells (fcells wake18).toArray 35)).alloc (.cells #[S [], .slice none 0 0, .int .i64 200, .slice (some ⟨w.heap.size, 0, none⟩) 2 2, S [], .int .i64 100, .int .i64 102] 33) := ⟨_, rfl⟩
  have hQ : Blk w0 (w.heap.size + 1) 33 #[S [], .slice none 0 0, .int .i64 200, .slice (some ⟨w.heap.size, 0, none⟩) 2 2, S [], .int .i64 100, .int .i64 102] := by
    rw [ew]
    have := Blk.new (w.alloc (.cells (fcells wake18).toArray 35)) 33 #[S [], .slice none 0 0, .int .i64 200, .slice (some ⟨w.heap.size, 0, none⟩) 2 2, S [], .int .i64 100, .int .i64 102]
    rwa [show (w.alloc (.cells (fcells wake18).toArray 35)).heap.size = w.heap.size + 1 by simp] at this
  have hb0 : Below w.heap.size w w0 := by rw [ew]; exact ((Below.refl _ _).alloc (Nat.le_refl _) _).alloc (by simp) _
  have hf0 : Fs w0.heap.size w0 (.slice (some ⟨w.heap.size, 0, none⟩) 2 2) wake18 := by
    have h1 : Fs (w.heap.size + 1) (w.alloc (.cells (fcells wake18).toArray 35)) (.slice (some ⟨w.heap.size, 0, none⟩) 2 2) wake18 := Rd.lit w 35 (fcells wake18).toArray 3 2 rfl (by decide)
    have h2 : Below (w.heap.size + 1) (w.alloc (.cells (fcells wake18).toArray 35)) w0 := by rw [ew]; exact (Below.refl _ _).alloc (by simp) _
    exact (h1.below h2).mono (Nat.le_of_lt hQ.lt)
  have hnil : ∀ w : World, Fs w.heap.size w (.slice none 0 0) [] := fun w => Rd.nil _ _ _
  have Hnil := Lib.hid hnil
  clear hnil
  go_enter Tryz.func5, Tryz.ntmps5
  go_wp2_with fail
  change Calls _ _ _ ((w.alloc (.cells (fcells wake18).toArray 35)).alloc (.cells #[S [], .slice none 0 0, .int .i64 200, .slice (some ⟨w.heap.size, 0, none⟩) 2 2, S [], .int .i64 100, .int .i64 102] 33)) _
  rw [← ew]
  clear ew
  refine (Lifetime_at 60 ⟨[], .slice none 0 0, 200, .slice (some ⟨w.heap.size, 0, none⟩) 2 2, [], 100, 102⟩ wake18 wake_life w0 hf0 (by decide)).mono ?_
  rintro e w1 ⟨rfl, hb1⟩
  have hw1 := Bl.tr hb0 hb1
  have hQ1 := hQ.on hb1
  have hf1 := (hf0.below hb1).mono hb1.size
  (have y0 : w1.cell? ⟨w.heap.size + 1, 0, none⟩ = some (S []) := hQ1.cell 0; have y1 : w1.cell? ⟨w.heap.size + 1, 1, none⟩ = some (.slice none 0 0) := hQ1.cell 1; have y2 : w1.cell? ⟨w.heap.size + 1, 2, none⟩ = some (.int .i64 200) := hQ1.cell 2; have y3 : w1.cell? ⟨w.heap.size + 1, 3, none⟩ = some (.slice (some ⟨w.heap.size, 0, none⟩) 2 2) := hQ1.cell 3; have y4 : w1.cell? ⟨w.heap.size + 1, 4, none⟩ = some (S []) := hQ1.cell 4; have y5 : w1.cell? ⟨w.heap.size + 1, 5, none⟩ = some (.int .i64 100) := hQ1.cell 5; have y6 : w1.cell? ⟨w.heap.size + 1, 6, none⟩ = some (.int .i64 102) := hQ1.cell 6)
  go_wp2_with fail
  refine (Age_at 15 ⟨[], .slice none 0 0, 200, .slice (some ⟨w.heap.size, 0, none⟩) 2 2, [], 100, 102⟩ wake18 110 wake_age18 w1 hf1 (by decide)).mono ?_
  rintro e w2 ⟨rfl, hb2⟩
  have hw2 := Bl.tr hw1 hb2
  have hQ2 := hQ1.on hb2
  have hf2 := (hf1.below hb2).mono hb2.size
  clear y0 y1 y2 y3 y4 y5 y6
  (have y0 : w2.cell? ⟨w.heap.size + 1, 0, none⟩ = some (S []) := hQ2.cell 0; have y1 : w2.cell? ⟨w.heap.size + 1, 1, none⟩ = some (.slice none 0 0) := hQ2.cell 1; have y2 : w2.cell? ⟨w.heap.size + 1, 2, none⟩ = some (.int .i64 200) := hQ2.cell 2; have y3 : w2.cell? ⟨w.heap.size + 1, 3, none⟩ = some (.slice (some ⟨w.heap.size, 0, none⟩) 2 2) := hQ2.cell 3; have y4 : w2.cell? ⟨w.heap.size + 1, 4, none⟩ = some (S []) := hQ2.cell 4; have y5 : w2.cell? ⟨w.heap.size + 1, 5, none⟩ = some (.int .i64 100) := hQ2.cell 5; have y6 : w2.cell? ⟨w.heap.size + 1, 6, none⟩ = some (.int .i64 102) := hQ2.cell 6)
  go_wp2_with fail
  refine (Good_at true ⟨[], [], [], [], .slice none 0 0⟩ ⟨[], .slice none 0 0, 200, .slice (some ⟨w.heap.size, 0, none⟩) 2 2, [], 100, 102⟩ [] wake18 110 wake_good w2 (Hnil.out _) hf2 (by decide) (by decide)).mono ?_
  rintro e w3 ⟨rfl, hb3⟩
  have hw3 := Bl.tr hw2 hb3
  have hQ3 := hQ2.on hb3
  have hf3 := (hf2.below hb3).mono hb3.size
  clear y0 y1 y2 y3 y4 y5 y6
  (have y0 : w3.cell? ⟨w.heap.size + 1, 0, none⟩ = some (S []) := hQ3.cell 0; have y1 : w3.cell? ⟨w.heap.size + 1, 1, none⟩ = some (.slice none 0 0) := hQ3.cell 1; have y2 : w3.cell? ⟨w.heap.size + 1, 2, none⟩ = some (.int .i64 200) := hQ3.cell 2; have y3 : w3.cell? ⟨w.heap.size + 1, 3, none⟩ = some (.slice (some ⟨w.heap.size, 0, none⟩) 2 2) := hQ3.cell 3; have y4 : w3.cell? ⟨w.heap.size + 1, 4, none⟩ = some (S []) := hQ3.cell 4; have y5 : w3.cell? ⟨w.heap.size + 1, 5, none⟩ = some (.int .i64 100) := hQ3.cell 5; have y6 : w3.cell? ⟨w.heap.size + 1, 6, none⟩ = some (.int .i64 102) := hQ3.cell 6)
  go_wp2_with fail
  refine (Good_at false ⟨[], [], [], [], .slice none 0 0⟩ ⟨[], .slice none 0 0, 200, .slice (some ⟨w.heap.size, 0, none⟩) 2 2, [], 100, 102⟩ [] wake18 155 wake_bad w3 (Hnil.out _) hf3 (by decide) (by decide)).mono ?_
  rintro e w4 ⟨rfl, hb4⟩
  go_wp2
  go_ret
  exact ⟨rfl, Bl.tr hw3 hb4⟩
end Go.Proofs.YtghggooaaefdcabGreatDoor
