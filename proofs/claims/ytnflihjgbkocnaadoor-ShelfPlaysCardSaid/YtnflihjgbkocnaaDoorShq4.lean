
/- The walks of layer 19: two lists of what was picked, held against each other by Go's own slices.Equal; the closures of Put and Forget. -/
import Derived.Test.YtnflihjgbkocnaaDoorShq2
import Derived.Test.YtnflihjgbkocnaaDoorHop
import Derived.Deep.DrawnRows
import Derived.Deep.DeepCutAuto
import Derived.Laws.StructEq
namespace Go.Proofs.YtnflihjgbkocnaaDoor
open Go.RowKit Go.Dr

set_option linter.unusedSimpArgs false in
set_option linter.unusedVariables false in
set_option linter.unnecessarySimpa false in
theorem structP : Tryd.prog.underlying 53 = some (.struct (Tryd.prog.fieldsOf 53)) := by kernel_rfl
set_option linter.unusedSimpArgs false in
set_option linter.unusedVariables false in
set_option linter.unnecessarySimpa false in
theorem stoodP : Tryd.prog.stoodInHeld 53 = false := by kernel_rfl
set_option linter.unusedSimpArgs false in
set_option linter.unusedVariables false in
set_option linter.unnecessarySimpa false in
theorem neqP (f g : F) (w : World) (c : Bool) (hc : c = !decide (f = g)) : (binOp .neq 53 (.agg #[S f.n, S f.v, .bool f.m]) (.agg #[S g.n, S g.v, .bool g.m])).run Tryd.prog w = .ok (.bool c) w := by
  subst hc
  rw [run_neq_struct, show (10000 : Nat) = 9999 + 1 from rfl, run_equalIn_agg w 9999 53 _ _ structP stoodP]
  simp only [Program.fieldsOf, Tryd.underlying53]
  go_simp
  obtain ⟨fn, fv, fm⟩ := f
  obtain ⟨gn, gv, gm⟩ := g
  by_cases h1 : fn = gn <;> by_cases h2 : fv = gv <;> by_cases h3 : fm = gm <;> simp [h1, h2, h3]

set_option linter.unusedSimpArgs false in
set_option linter.unusedVariables false in
set_option linter.unnecessarySimpa false in
set_option maxRecDepth 100000 in
set_option maxHeartbeats 1000000 in
theorem EqualP_any (a b : List F) (va vb : Value) (w : World) (ha : Fs w.heap.size w va a) (hb : Fs w.heap.size w vb b) :
    Calls Tryd.prog 25 #[va, vb] w fun e w' => e = .returned (.bool (a == b)) ∧ Below w.heap.size w w' := by
  obtain ⟨pa, ca, rfl, hma⟩ := ha.form
  obtain ⟨pb, cb, rfl, hmb⟩ := hb.form
  by_cases hlen : a.length = b.length
  · have h2 : ((a.length : Int) != (b.length : Int)) = false := by simp [hlen]
    have HL := Lib.hid hlen
    clear hlen
    go_enter Tryd.func25, Tryd.ntmps25
    go_wp2
    go_loopw [13] (fun i wr => ∃ k : Nat, k ≤ a.length ∧ i = .int .i64 k ∧ Hid (a.take k = b.take k) ∧ Below w.heap.size w wr) (fun i _ => a.length - (intOf i).toNat)
    case atStart => exact ⟨0, Nat.zero_le _, rfl, rfl, Below.refl _ _⟩
    case round =>
      obtain ⟨k, hk, rfl, HT, hbel⟩ := hrel
      by_cases hlt : k < a.length
      · have hlt' : k < b.length := by rw [← HL.out]; exact hlt
        obtain ⟨ba, oa, rfl, hba, hca0, hca1, hca2⟩ := (ha.below hbel).at k hlt
        obtain ⟨bb, ob, rfl, hbb, hcb0, hcb1, hcb2⟩ := (hb.below hbel).at k hlt'
        by_cases he : a[k] = b[k]
        · have HN := Lib.hid (take_eq_succ hlt hlt' HT.out he)
          have hq := fun w => neqP a[k] b[k] w false (by simp [he])
          clear he
          go_wp2_with fail
          go_quiet (fail)
          go_wp2
          go_roundw
          case rel => exact ⟨k + 1, by omega, by go_num, HN, below_drewN hbel _⟩
          case measure => simp [intOf]; omega
        · have HN := Lib.hid (ne_of_get hlt hlt' he)
          have hq := fun w => neqP a[k] b[k] w true (by simp [he])
          clear he
          go_wp2_with fail
          go_quiet (fail)
          go_wp2
          go_ret
          exact ⟨ret_bool (by symm; rw [beq_eq_false_iff_ne]; exact HN.out), below_drewN hbel _⟩
      · go_wp2
        go_ret
        exact ⟨ret_bool (by symm; rw [beq_iff_eq]; have := HT.out; rwa [List.take_of_length_le (by omega), List.take_of_length_le (by rw [← HL.out]; omega)] at this), hbel⟩
  · have h2 : ((a.length : Int) != (b.length : Int)) = true := by simp; omega
    go_enter Tryd.func25, Tryd.ntmps25
    go_wp2
    go_ret
    exact ⟨ret_bool (by symm; rw [beq_eq_false_iff_ne]; intro e; exact hlen (by rw [e])), Below.refl _ _⟩

set_option linter.unusedSimpArgs false in
set_option linter.unusedVariables false in
set_option linter.unnecessarySimpa false in
set_option maxRecDepth 100000 in
set_option maxHeartbeats 1000000 in
theorem put1_any (n : Nd) (G : Nat) (q : En) (lp : List F) (w : World) (hG : Blk w G 36 #[S q.key, q.vp, .int .i64 q.st, q.vf, S q.body, .int .i64 q.asked, .int .i64 q.came]) (hn : Fs w.heap.size w n.vp n.x.lp) (hp : Fs w.heap.size w q.vp lp) :
    Calls Tryd.prog 24 #[entV n, Ptr G] w fun e w' => e = .returned (.bool (n.x.key == q.key && n.x.lp == lp)) ∧ Below w.heap.size w w' := by
  obtain ⟨w0, ew⟩ : ∃ w0 : World, w0 = w.alloc (.cells #[S n.x.key, n.vp, .int .i64 n.x.st, n.vf, S n.x.body, .int .i64 n.x.asked, .int .i64 n.x.came] 36) := ⟨_, rfl⟩
  have hb0 : Below w.heap.size w w0 := by rw [ew]; exact (Below.refl _ _).alloc (Nat.le_refl _) _
  have hN : Blk w0 w.heap.size 36 #[S n.x.key, n.vp, .int .i64 n.x.st, n.vf, S n.x.body, .int .i64 n.x.asked, .int .i64 n.x.came] := by rw [ew]; exact Blk.new _ _ _
  have hG0 := hG.on hb0
  have x0 : w0.cell? ⟨w.heap.size, 0, none⟩ = some (S n.x.key) := hN.cell 0
  have x1 : w0.cell? ⟨w.heap.size, 1, none⟩ = some n.vp := hN.cell 1
  have y0 : w0.cell? ⟨G, 0, none⟩ = some (S q.key) := hG0.cell 0
  have y1 : w0.cell? ⟨G, 1, none⟩ = some q.vp := hG0.cell 1
  have hn0 := (hn.below hb0).mono hb0.size
  have hp0 := (hp.below hb0).mono hb0.size
  have HE := EqualP_any n.x.lp lp n.vp q.vp w0 hn0 hp0
  obtain ⟨c, ec⟩ : ∃ c, c = (n.x.lp == lp) := ⟨_, rfl⟩
  rw [← ec] at HE ⊢
  clear ec hn hp hn0 hp0 hG
  by_cases hk : n.x.key = q.key
  · have hr : (n.x.key == q.key) = true := by simp [hk]
    rw [hr, Bool.true_and]
    clear hk
    go_enter Tryd.func24, Tryd.ntmps24
    go_upto_region 1 with fail
    rw [← ew]
    clear ew
    go_wp2_with fail
    refine HE.mono ?_
    rintro e w1 ⟨rfl, hb1⟩
    go_wp2
    go_ret
    exact ⟨rfl, Bl.tr hb0 hb1⟩
  · have hr : (n.x.key == q.key) = false := by simp [hk]
    rw [hr, Bool.false_and]
    clear hk
    go_enter Tryd.func24, Tryd.ntmps24
    go_upto_region 1 with fail
    rw [← ew]
    clear ew
    go_wp2
    go_ret
    exact ⟨rfl, hb0⟩

set_option linter.unusedSimpArgs false in
set_option linter.unusedVariables false in
set_option linter.unnecessarySimpa false in
set_option maxRecDepth 100000 in
set_option maxHeartbeats 1000000 in
theorem forget1_any (n : Nd) (G : Nat) (k : Bytes) (w : World) (hG : Blk w G 9 #[S k]) :
    Calls Tryd.prog 38 #[entV n, Ptr G] w fun e w' => e = .returned (.bool (n.x.key == k)) ∧ Below w.heap.size w w' := by
  obtain ⟨w0, ew⟩ : ∃ w0 : World, w0 = w.alloc (.cells #[S n.x.key, n.vp, .int .i64 n.x.st, n.vf, S n.x.body, .int .i64 n.x.asked, .int .i64 n.x.came] 36) := ⟨_, rfl⟩
  have hb0 : Below w.heap.size w w0 := by rw [ew]; exact (Below.refl _ _).alloc (Nat.le_refl _) _
  have hN : Blk w0 w.heap.size 36 #[S n.x.key, n.vp, .int .i64 n.x.st, n.vf, S n.x.body, .int .i64 n.x.asked, .int .i64 n.x.came] := by rw [ew]; exact Blk.new _ _ _
  have hG0 := hG.on hb0
  have x0 : w0.cell? ⟨w.heap.size, 0, none⟩ = some (S n.x.key) := hN.cell 0
  have y0 : w0.cell? ⟨G, 0, none⟩ = some (S k) := hG0.cell 0
  clear hG
  go_enter Tryd.func38, Tryd.ntmps38
  go_upto_region 1 with fail
  rw [← ew]
  clear ew
  go_wp2
  go_ret
  exact ⟨rfl, hb0⟩
end Go.Proofs.YtnflihjgbkocnaaDoor
