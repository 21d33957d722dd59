
/- ControlBoth: two lists together say what either says. -/
import Derived.Test.YtcicpboblppfiaaDoorLaw13k
import Derived.Deep.DeepCutAuto
import Derived.Test.YtcicpboblppfiaaDoorBase3
namespace Go.Proofs.YtcicpboblppfiaaDoor
open Go.RowKit Go.Dr

set_option linter.unusedSimpArgs false in
set_option maxRecDepth 100000 in
set_option maxHeartbeats 16000000 in
theorem bothFT (a b : List F) (va vb : Value) (w : World) (h : Fs w.heap.size w va a) (h' : Fs w.heap.size w vb b) (hb : ∀ f ∈ a, f.n.length ≤ 140737488355328 ∧ f.v.length ≤ 140737488355328)
    (hb' : ∀ f ∈ b, f.n.length ≤ 140737488355328 ∧ f.v.length ≤ 140737488355328) (k1 : (readC a).ns = false) (k2 : (readC a).nc = true) :
    Calls Tryd.prog 9 #[va, vb] w fun e w' => e = .returned (.bool true) ∧ Below w.heap.size w w' := by
  have HK1 := Lib.hid k1
  have HK2 := Lib.hid k2
  clear k1 k2
  have HB := Lib.hid hb
  have HB' := Lib.hid hb'
  clear hb hb'
  by_cases hbig : 8192 < fbytes a
  · have hq : decide (8192 < (fbytes a : Int)) = true := by rw [decide_eq_true_iff]; omega
    clear hbig
    go_enter Tryd.func9, Tryd.ntmps9
    go_wp2_with fail
    refine (awake13_any _).mono ?_
    rintro e w1 ⟨rfl, hb1⟩
    go_wp2_with fail
    refine (FBytes_any a va _ ((h.below hb1).mono hb1.size) HB.out).mono ?_
    rintro e w2 ⟨rfl, hb2⟩
    go_wp2
    go_ret
    exact ⟨rfl, Bl.tr hb1 hb2⟩
  have hq : decide (8192 < (fbytes a : Int)) = false := by rw [decide_eq_false_iff_not]; omega
  have hsa : fsum a ≤ 8192 := by rw [fbytes_sum a (by omega)]; omega
  clear hbig
  by_cases hbig : 8192 < fbytes b
  · have hq2 : decide (8192 < (fbytes b : Int)) = true := by rw [decide_eq_true_iff]; omega
    clear hbig
    go_enter Tryd.func9, Tryd.ntmps9
    go_wp2_with fail
    refine (awake13_any _).mono ?_
    rintro e w1 ⟨rfl, hb1⟩
    go_wp2_with fail
    refine (FBytes_any a va _ ((h.below hb1).mono hb1.size) HB.out).mono ?_
    rintro e w2 ⟨rfl, hb2⟩
    have hw2 := Bl.tr hb1 hb2
    go_wp2_with fail
    refine (FBytes_any b vb _ ((h'.below hw2).mono hw2.size) HB'.out).mono ?_
    rintro e w3 ⟨rfl, hb3⟩
    go_wp2
    go_ret
    exact ⟨rfl, Bl.tr hw2 hb3⟩
  have hq2 : decide (8192 < (fbytes b : Int)) = false := by rw [decide_eq_false_iff_not]; omega
  have hsb : fsum b ≤ 8192 := by rw [fbytes_sum b (by omega)]; omega
  clear hbig
  have hla := fsum_length a
  have hlb := fsum_length b
  go_enter Tryd.func9, Tryd.ntmps9
  go_wp2_with fail
  refine (awake13_any _).mono ?_
  rintro e w1 ⟨rfl, hb1⟩
  go_wp2_with fail
  refine (FBytes_any a va _ ((h.below hb1).mono hb1.size) HB.out).mono ?_
  rintro e w2 ⟨rfl, hb2⟩
  have hw2 := Bl.tr hb1 hb2
  go_wp2_with fail
  refine (FBytes_any b vb _ ((h'.below hw2).mono hw2.size) HB'.out).mono ?_
  rintro e w3 ⟨rfl, hb3⟩
  have hw3 := Bl.tr hw2 hb3
  have a3 := (h.below hw3).mono hw3.size
  have b3 := (h'.below hw3).mono hw3.size
  have HJ := Lib.hid (readC_append a b)
  have hox := readC_ok a
  have hoy := readC_ok b
  clear h h' HB HB' hb1 hb2 hb3 hw2
  (generalize hgenx : readC a = x at *; have Hx := Lib.hid hgenx; clear hgenx)
  (generalize hgeny : readC b = y at *; have Hy := Lib.hid hgeny; clear hgeny)
  go_wp2_with fail
  refine (Read_at x a Hx.out _ _ a3 (by omega)).mono ?_
  rintro e w4 ⟨rfl, hb4⟩
  have hal : Below w4.heap.size w4 (w4.alloc (.cells x.cells 66)) := (Below.refl _ _).alloc (Nat.le_refl _) _
  have hX := Blk.new w4 66 x.cells
  have h34 := Bl.tr hb4 hal
  have hw4 := Bl.tr hw3 h34
  have a4 := (a3.below h34).mono h34.size
  have b4 := (b3.below h34).mono h34.size
  clear a3 b3 hal hb4 hw3
  go_wp2_with fail
  change Calls _ _ _ (w4.alloc (.cells x.cells 66)) _
  generalize w4.alloc (.cells x.cells 66) = w5 at *
  generalize w4.heap.size = bx at *
  refine (Read_at y b Hy.out _ _ b4 (by omega)).mono ?_
  rintro e w6 ⟨rfl, hb6⟩
  have hal : Below w6.heap.size w6 (w6.alloc (.cells y.cells 66)) := (Below.refl _ _).alloc (Nat.le_refl _) _
  have hY := Blk.new w6 66 y.cells
  have h56 := Bl.tr hb6 hal
  have hw6 := Bl.tr hw4 h56
  have a6 := (a4.below h56).mono h56.size
  have b6 := (b4.below h56).mono h56.size
  have hXlt := hX.lt
  have hb6s := hb6.size
  have hX := hX.on h56
  clear a4 b4 hal hb6 hw4 h56
  rw [World.size_alloc] at a6 b6
  go_wp2_with (first | (at_builtin; refine wpList_appRd rfl _ _ 26 rfl (w6.heap.size + 1) 45 (.agg #[.string ByteArray.empty, .string ByteArray.empty, .bool false]) 3 40 Tryd.underlying26 (by kernel_rfl) rfl (by decide) _ _ _ rfl (by exact hown2) _ _ _ _ rfl (by exact ((b6.below ((Below.refl _ _).alloc (by simp) _)).below hb2)) (fcells_one _) (by unfold maxLen; omega) (by omega) (by have := hb2.size; simp at this; omega) ?_; intro a'' c'' w8 hown3 hb3) | (at_builtin; refine wpList_appRd rfl _ _ 26 rfl (w6.heap.size + 1) 45 (.agg #[.string ByteArray.empty, .string ByteArray.empty, .bool false]) 3 40 Tryd.underlying26 (by kernel_rfl) rfl (by decide) _ _ _ rfl (by exact own_lit _ (w6.heap.size + 1) (by simp) (w6.heap.size + 1) (Nat.le_refl _) _ _) _ _ _ _ rfl (by exact a6.below ((Below.refl _ _).alloc (by simp) _)) (fcells_one _) (by unfold maxLen; omega) (by omega) (by simp) ?_; intro a' c' w7 hown2 hb2; simp only [Nat.zero_add, List.nil_append] at hown2) | (go_at_call 35; fail))
  have h68 : Below (w6.heap.size + 1) (w6.alloc (.cells y.cells 66)) w8 := (((Below.refl (w6.heap.size + 1) (w6.alloc (.cells y.cells 66))).alloc (by simp) _).trans hb2).trans hb3
  have hX8 := hX.below h68 (by have := hX.lt; simpa using this)
  have hY8 := hY.below h68 (by simp)
  have hw8 : Below w.heap.size w w8 := hw6.trans (h68.mono (by have := hw6.size; simpa using this))
  have hF : Fs w8.heap.size w8 (.slice a'' (a.length + b.length) c'') (a ++ b) := by have := Rd.own hown3; unfold Fs; rw [fcells_append, List.length_append]; exact this
  have hXY : bx ≠ w6.heap.size := by
    have h1 := hXlt
    have h2 := hb6s
    omega
  clear hb2 hb3 hown2 hown3 a6 b6 hX hY hw6 h68
  refine (Read_at (x.join y) _ (by rw [HJ.out]) _ _ hF (by rw [fsum_append]; omega)).mono ?_
  rintro e w10 ⟨rfl, hb10⟩
  have hal : Below w10.heap.size w10 (w10.alloc (.cells (x.join y).cells 66)) := (Below.refl _ _).alloc (Nat.le_refl _) _
  have hZ := Blk.new w10 66 (x.join y).cells
  have hw11 := Bl.tr (Bl.tr hw8 hb10) hal
  have hX11 := (hX8.on hb10).on hal
  have hY11 := (hY8.on hb10).on hal
  clear hF hal hb10 hX8 hY8 hw8
  go_upto_region 8 with fail
  change Code.wp _ _ _ _ (w10.alloc (.cells (x.join y).cells 66))
  generalize w10.alloc (.cells (x.join y).cells 66) = w11 at *
  generalize w10.heap.size = bz at *
  generalize w6.heap.size = b6 at *
  obtain ⟨⟨xa0, xa1⟩, ⟨xs0, xs1⟩, ⟨xf0, xf1⟩, -⟩ := hox
  obtain ⟨⟨ya0, ya1⟩, ⟨ys0, ys1⟩, ⟨yf0, yf1⟩, -⟩ := hoy
  have HM := Lib.hid (age_least x.ma y.ma xa0 ya0)
  have HS := Lib.hid (age_least x.sm y.sm xs0 ys0)
  (have x0 : w11.cell? ⟨bx, 0, none⟩ = some (.bool x.ns) := hX11.cell 0; have x1 : w11.cell? ⟨bx, 1, none⟩ = some (.bool x.nc) := hX11.cell 1; have x3 : w11.cell? ⟨bx, 3, none⟩ = some (.bool x.pu) := hX11.cell 3; have x4 : w11.cell? ⟨bx, 4, none⟩ = some (.bool x.pr) := hX11.cell 4; have x7 : w11.cell? ⟨bx, 7, none⟩ = some (.bool x.oi) := hX11.cell 7; have x8 : w11.cell? ⟨bx, 8, none⟩ = some (.int .i64 x.ma) := hX11.cell 8; have x9 : w11.cell? ⟨bx, 9, none⟩ = some (.int .i64 x.sm) := hX11.cell 9; have x10 : w11.cell? ⟨bx, 10, none⟩ = some (.int .i64 x.mf) := hX11.cell 10)
  (have y0 : w11.cell? ⟨b6, 0, none⟩ = some (.bool y.ns) := hY11.cell 0; have y1 : w11.cell? ⟨b6, 1, none⟩ = some (.bool y.nc) := hY11.cell 1; have y3 : w11.cell? ⟨b6, 3, none⟩ = some (.bool y.pu) := hY11.cell 3; have y4 : w11.cell? ⟨b6, 4, none⟩ = some (.bool y.pr) := hY11.cell 4; have y7 : w11.cell? ⟨b6, 7, none⟩ = some (.bool y.oi) := hY11.cell 7; have y8 : w11.cell? ⟨b6, 8, none⟩ = some (.int .i64 y.ma) := hY11.cell 8; have y9 : w11.cell? ⟨b6, 9, none⟩ = some (.int .i64 y.sm) := hY11.cell 9; have y10 : w11.cell? ⟨b6, 10, none⟩ = some (.int .i64 y.mf) := hY11.cell 10)
  (have z0 : w11.cell? ⟨bz, 0, none⟩ = some (.bool (x.ns || y.ns)) := hZ.cell 0; have z1 : w11.cell? ⟨bz, 1, none⟩ = some (.bool (x.nc || y.nc)) := hZ.cell 1; have z2 : w11.cell? ⟨bz, 2, none⟩ = some (.bool (x.nt || y.nt)) := hZ.cell 2; have z3 : w11.cell? ⟨bz, 3, none⟩ = some (.bool (x.pu || y.pu)) := hZ.cell 3; have z4 : w11.cell? ⟨bz, 4, none⟩ = some (.bool (x.pr || y.pr)) := hZ.cell 4; have z5 : w11.cell? ⟨bz, 5, none⟩ = some (.bool (x.mr || y.mr)) := hZ.cell 5; have z6 : w11.cell? ⟨bz, 6, none⟩ = some (.bool (x.px || y.px)) := hZ.cell 6; have z7 : w11.cell? ⟨bz, 7, none⟩ = some (.bool (x.oi || y.oi)) := hZ.cell 7; have z10 : w11.cell? ⟨bz, 10, none⟩ = some (.int .i64 (max x.mf y.mf)) := (by have q : w11.cell? ⟨bz, 10, none⟩ = some (.int .i64 (most x.mf y.mf)) := hZ.cell 10; rwa [most_max] at q))
  have z8 : w11.cell? ⟨bz, 8, none⟩ = some (.int .i64 (least x.ma y.ma)) := hZ.cell 8
  have z9 : w11.cell? ⟨bz, 9, none⟩ = some (.int .i64 (least x.sm y.sm)) := hZ.cell 9
  clear hX11 hY11 hZ hXlt hb6s hXY hla hlb hsa hsb HJ Hx Hy hq hq2
  rw [HK1.out] at x0 z0
  rw [HK2.out] at x1 z1
  simp only [Bool.true_or, Bool.false_or] at z0 z1
  clear HK1 HK2
  go_upto_region 9 with fail
  go_cut [44] (fun s wx => s = .bool (decide (x.ma < 0 ∨ (0 ≤ y.ma ∧ y.ma < x.ma))) ∧ w11 = wx)
  case first =>
    go_wp2
    all_goals (go_meet; exact ⟨congrArg Value.bool (by first | (rw [Bool.eq_iff_iff]; simp only [Bool.or_eq_true, Bool.and_eq_true, decide_eq_true_eq]; omega) | (rw [decide_eq_true_iff]; omega) | (symm; rw [decide_eq_true_iff]; omega) | (rw [decide_eq_false_iff_not]; omega) | (symm; rw [decide_eq_false_iff_not]; omega)), rfl⟩)
  case rest =>
    obtain ⟨rfl, rfl⟩ := hcut
    (generalize hgenB : decide (x.ma < 0 ∨ (0 ≤ y.ma ∧ y.ma < x.ma)) = B at *; have HB := Lib.hid hgenB; clear hgenB)
    go_upto_if 44 with fail
    go_cut [8] (fun s wx => s = .int .i64 (least x.ma y.ma) ∧ w11 = wx)
    case first =>
      cases B
      all_goals
        go_wp2
        go_meet
        exact ⟨congrArg (Value.int .i64) (by rw [← HM.out]; rfl), rfl⟩
    case rest =>
      obtain ⟨rfl, rfl⟩ := hcut
      clear HM HB
      go_upto_region 12 with fail
      go_cut [61] (fun s wx => s = .bool (decide (x.sm < 0 ∨ (0 ≤ y.sm ∧ y.sm < x.sm))) ∧ w11 = wx)
      case first =>
        go_wp2
        all_goals (go_meet; exact ⟨congrArg Value.bool (by first | (rw [Bool.eq_iff_iff]; simp only [Bool.or_eq_true, Bool.and_eq_true, decide_eq_true_eq]; omega) | (rw [decide_eq_true_iff]; omega) | (symm; rw [decide_eq_true_iff]; omega) | (rw [decide_eq_false_iff_not]; omega) | (symm; rw [decide_eq_false_iff_not]; omega)), rfl⟩)
      case rest =>
        obtain ⟨rfl, rfl⟩ := hcut
        (generalize hgenC : decide (x.sm < 0 ∨ (0 ≤ y.sm ∧ y.sm < x.sm)) = C at *; have HC := Lib.hid hgenC; clear hgenC)
        go_upto_if 61 with fail
        go_cut [9] (fun s wx => s = .int .i64 (least x.sm y.sm) ∧ w11 = wx)
        case first =>
          cases C
          all_goals
            go_wp2
            go_meet
            exact ⟨congrArg (Value.int .i64) (by rw [← HS.out]; rfl), rfl⟩
        case rest =>
          obtain ⟨rfl, rfl⟩ := hcut
          clear HS HC
          skip
          go_wp2
          all_goals
            go_ret
            exact ⟨rfl, hw11⟩
end Go.Proofs.YtcicpboblppfiaaDoor
