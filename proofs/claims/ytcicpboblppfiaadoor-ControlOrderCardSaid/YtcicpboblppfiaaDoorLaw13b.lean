
/- ControlOrder: fields in another order, or with directives between them that aren't known, say the same. -/
import Derived.Test.YtcicpboblppfiaaDoorLaw13a
import Derived.Deep.RegionHeld3
import Derived.Test.YtcicpboblppfiaaDoorBase3
namespace Go.Proofs.YtcicpboblppfiaaDoor
open Go.RowKit Go.Dr

theorem rev_drop (l : List F) (j : Nat) (h : j < l.length) : (l.drop j).reverse = (l.drop (j + 1)).reverse ++ [l[j]] := by
  rw [List.drop_eq_getElem_cons h, List.reverse_cons]

set_option linter.unusedSimpArgs false in
set_option maxRecDepth 100000 in
set_option maxHeartbeats 8000000 in
theorem ControlOrder_any (l : List F) (at' : Int) (v : Value) (w : World) (h : Fs w.heap.size w v l) (hb : ∀ f ∈ l, f.n.length ≤ 140737488355328 ∧ f.v.length ≤ 140737488355328)
    (ha : -9223372036854775808 ≤ at' ∧ at' ≤ 9223372036854775807) :
    Calls Tryd.prog 8 #[v, .int .i64 at'] w fun e w' => e = .returned (.bool true) ∧ Below w.heap.size w w' := by
  have HB := Lib.hid hb
  clear hb
  by_cases hbig : 16384 < fbytes l
  · have hq : decide (16384 < (fbytes l : Int)) = true := by rw [decide_eq_true_iff]; omega
    clear hbig
    go_enter Tryd.func8, Tryd.ntmps8
    go_wp2_with fail
    refine (awake13_any _).mono ?_
    rintro e w1 ⟨rfl, hb1⟩
    go_wp2_with fail
    refine (FBytes_any l v _ ((h.below hb1).mono hb1.size) HB.out).mono ?_
    rintro e w2 ⟨rfl, hb2⟩
    go_wp2
    go_ret
    exact ⟨rfl, Bl.tr hb1 hb2⟩
  have hq : decide (16384 < (fbytes l : Int)) = false := by rw [decide_eq_false_iff_not]; omega
  have hsum : fsum l ≤ 16384 := by rw [fbytes_sum l (by omega)]; omega
  have hll := fsum_length l
  clear hbig
  obtain ⟨pa, ca, rfl, hm⟩ := h.form
  go_enter Tryd.func8, Tryd.ntmps8
  go_wp2_with fail
  refine (awake13_any _).mono ?_
  rintro e w1 ⟨rfl, hw1⟩
  have l1 := (h.below hw1).mono hw1.size
  clear h
  go_wp2_with fail
  refine (FBytes_any l _ _ l1 HB.out).mono ?_
  rintro e w2 ⟨rfl, hb2⟩
  have hw2 := Bl.tr hw1 hb2
  have l2 := (l1.below hb2).mono hb2.size
  clear l1 hb2 hw1 HB
  (generalize hgenc : readC l = c at *; have Hc := Lib.hid hgenc; clear hgenc)
  go_wp2_with fail
  refine (Read_at c l Hc.out _ _ l2 (by omega)).mono ?_
  rintro e w3 ⟨rfl, hb3⟩
  have hw3 := Bl.tr hw2 hb3
  have l3 := (l2.below hb3).mono hb3.size
  clear l2 hb3 hw2
  have hC := Blk.new w3 66 c.cells
  have hal : Below w3.heap.size w3 (w3.alloc (.cells c.cells 66)) := (Below.refl _ _).alloc (Nat.le_refl _) _
  have l4 := (l3.below hal).mono hal.size
  have hw4 := Bl.tr hw3 hal
  clear l3 hal
  go_wp2_with fail
  change Code.wp _ _ _ _ (w3.alloc (.cells c.cells 66))
  generalize w3.alloc (.cells c.cells 66) = w4 at *
  generalize w3.heap.size = b at *
  go_loopw [6, 7] (fun v i wr => ∃ j : Nat, j ≤ l.length ∧ i = .int .i64 ((j : Int) - 1) ∧ wr.ownsRow w4.heap.size 45 3 v (l.drop j).reverse.length (fcells (l.drop j).reverse) ∧ Below w4.heap.size w4 wr) (fun _ i _ => (intOf i + 1).toNat)
  case atStart => exact ⟨l.length, Nat.le_refl _, rfl, by simpa [fcells] using World.ownsRow_nil _ _ _ _, Below.refl _ _⟩
  case round =>
    obtain ⟨j, hj, rfl, hown, hbel⟩ := hrel
    rcases j with _ | j
    · rw [show ((0 : Nat) : Int) - 1 = -1 by omega]
      rw [List.drop_zero] at hown
      obtain ⟨wo, rfl⟩ : ∃ wo : World, wo = wr := ⟨_, rfl⟩
      have hCo := hC.on hbel
      have l5 := (l4.below hbel).mono hbel.size
      have hw5 := Bl.tr hw4 hbel
      have HR := Lib.hid ((readC_reverse l).trans Hc.out)
      have hfs : fsum l.reverse ≤ 16384 := by simpa [fsum] using hsum
      have o5 : Fs wo.heap.size wo _ l.reverse := Fs.own hown
      clear hC l4 hbel hw4 hown
      have hblt := hCo.lt
      (have g0 : wo.cell? ⟨b, 0, none⟩ = some (.bool c.ns) := hCo.cell 0; have g1 : wo.cell? ⟨b, 1, none⟩ = some (.bool c.nc) := hCo.cell 1; have g2 : wo.cell? ⟨b, 2, none⟩ = some (.bool c.nt) := hCo.cell 2; have g3 : wo.cell? ⟨b, 3, none⟩ = some (.bool c.pu) := hCo.cell 3; have g4 : wo.cell? ⟨b, 4, none⟩ = some (.bool c.pr) := hCo.cell 4; have g5 : wo.cell? ⟨b, 5, none⟩ = some (.bool c.mr) := hCo.cell 5; have g6 : wo.cell? ⟨b, 6, none⟩ = some (.bool c.px) := hCo.cell 6; have g7 : wo.cell? ⟨b, 7, none⟩ = some (.bool c.oi) := hCo.cell 7; have g8 : wo.cell? ⟨b, 8, none⟩ = some (.int .i64 c.ma) := hCo.cell 8; have g9 : wo.cell? ⟨b, 9, none⟩ = some (.int .i64 c.sm) := hCo.cell 9; have g10 : wo.cell? ⟨b, 10, none⟩ = some (.int .i64 c.mf) := hCo.cell 10; have g11 : wo.cell? ⟨b, 11, none⟩ = some (.int .i64 c.ms) := hCo.cell 11)
      go_wp2_with fail
      go_region_held3 (fun w' => w'.cell? ⟨b, 0, none⟩ = some (.bool c.ns) ∧ w'.cell? ⟨b, 1, none⟩ = some (.bool c.nc) ∧ w'.cell? ⟨b, 2, none⟩ = some (.bool c.nt) ∧ w'.cell? ⟨b, 3, none⟩ = some (.bool c.pu) ∧ w'.cell? ⟨b, 4, none⟩ = some (.bool c.pr) ∧ w'.cell? ⟨b, 5, none⟩ = some (.bool c.mr) ∧ w'.cell? ⟨b, 6, none⟩ = some (.bool c.px) ∧ w'.cell? ⟨b, 7, none⟩ = some (.bool c.oi) ∧ w'.cell? ⟨b, 8, none⟩ = some (.int .i64 c.ma) ∧ w'.cell? ⟨b, 9, none⟩ = some (.int .i64 c.sm) ∧ w'.cell? ⟨b, 10, none⟩ = some (.int .i64 c.mf) ∧ w'.cell? ⟨b, 11, none⟩ = some (.int .i64 c.ms))
        (first | go_keep)
        ((go_at_call 35; refine (Read_at c _ HR.out _ _ (by exact o5.below (Below.refl _ _).drew) (by omega)).mono ?_; rintro e w6 ⟨rfl, hb6⟩; have hC6 := hCo.drew.on hb6; (have k0 : w6.cell? ⟨b, 0, none⟩ = some (.bool c.ns) := hC6.cell 0; have k1 : w6.cell? ⟨b, 1, none⟩ = some (.bool c.nc) := hC6.cell 1; have k2 : w6.cell? ⟨b, 2, none⟩ = some (.bool c.nt) := hC6.cell 2; have k3 : w6.cell? ⟨b, 3, none⟩ = some (.bool c.pu) := hC6.cell 3; have k4 : w6.cell? ⟨b, 4, none⟩ = some (.bool c.pr) := hC6.cell 4; have k5 : w6.cell? ⟨b, 5, none⟩ = some (.bool c.mr) := hC6.cell 5; have k6 : w6.cell? ⟨b, 6, none⟩ = some (.bool c.px) := hC6.cell 6; have k7 : w6.cell? ⟨b, 7, none⟩ = some (.bool c.oi) := hC6.cell 7; have k8 : w6.cell? ⟨b, 8, none⟩ = some (.int .i64 c.ma) := hC6.cell 8; have k9 : w6.cell? ⟨b, 9, none⟩ = some (.int .i64 c.sm) := hC6.cell 9; have k10 : w6.cell? ⟨b, 10, none⟩ = some (.int .i64 c.mf) := hC6.cell 10; have k11 : w6.cell? ⟨b, 11, none⟩ = some (.int .i64 c.ms) := hC6.cell 11)))
      have hCn := hCo.drew.on hb6
      have l6 := (l5.below ((Below.refl _ _).drew.trans hb6)).mono hb6.size
      have hw6 := hw5.trans (((Below.refl _ _).drew.trans hb6).mono hw5.size)
      clear l5 hb6 hw5 o5
      have hC6lt := hC6.lt
      have hw6s := hw6.size
      by_cases hp : 0 < at'
      · obtain ⟨n, hn, hnl⟩ : ∃ n : Nat, at' % ((l.length : Int) + 1) = n ∧ n ≤ l.length := ⟨(at' % ((l.length : Int) + 1)).toNat, by have := Int.emod_nonneg at' (b := (l.length : Int) + 1) (by omega); omega, by have := Int.emod_lt_of_pos at' (b := (l.length : Int) + 1) (by omega); omega⟩
        have hnc : n ≤ ca := by obtain ⟨_, cc, e1, e2, _⟩ := l6; simp only [Value.slice.injEq] at e1; omega
        have hT : Rd w6.heap.size w6 3 (.slice pa n ca) n (fcells (l.take n)) := by have := Rd.upto l6 hnl; rwa [fcells_take] at this
        have hal : Below w6.heap.size w6 (w6.alloc (.cells #[] 45)) := (Below.refl _ _).alloc (Nat.le_refl _) _
        have HS := Lib.hid ((readC_insert l n staleF readC_stale).trans Hc.out)
        have HN : Hid ((l.take n ++ [staleF] ++ l.drop n).length = n + 1 + (l.length - n)) := by show _ = _; simp; omega
        have HB9 : Hid (fsum (l.take n ++ [staleF] ++ l.drop n) ≤ 1099511627776) := by
          show _ ≤ _
          have e : fsum l = fsum (l.take n) + fsum (l.drop n) := by rw [← fsum_append, List.take_append_drop]
          rw [fsum_append, fsum_append, show fsum [staleF] = 80 by decide]
          omega
        have hfn := fsum_take l n
        have hfl := fsum_length (l.take n)
        go_wp2_with (first | (at_builtin; refine wpList_appF rfl _ _ 26 rfl w6.heap.size Tryd.underlying26 (by kernel_rfl) _ _ _ rfl hown2 rfl (by omega) (by have := hb2.size; simp at this; omega) rfl ?_; intro a'' c'' w8 hown3 hb3 hz3) | (at_builtin; refine wpList_appRd rfl _ _ 26 rfl w6.heap.size 45 (.agg #[.string ByteArray.empty, .string ByteArray.empty, .bool false]) 3 40 Tryd.underlying26 (by kernel_rfl) rfl (by decide) _ _ _ rfl (World.ownsRow_lit (base := w6.heap.size) (e := 45) (size := 3) w6 #[] 0 (Nat.le_refl _) (by decide) rfl) _ _ _ _ rfl (hT.below hal) (fcells_one _) (by unfold maxLen; omega) (by omega) (by simp) ?_; intro a' c' w7 hown2 hb2; simp only [Nat.zero_add, List.nil_append, List.toList_toArray] at hown2))
        have h68 : Below w6.heap.size w6 w8 := (hal.trans hb2).trans hb3
        have hC8 := hCn.on h68
        have hD : Rd w6.heap.size w8 3 (sliced pa n l.length ca 3) (l.length - n) (fcells (l.drop n)) := by have := Rd.sliced (Rd.below l6 h68) hnl; rwa [fcells_drop] at this
        have hw8 := hw6.trans (h68.mono hw6.size)
        have hz8 := h68.size
        unfold sliced at hD
        clear hT hal hb2 hb3 hown2 l6 hw6
        (have m0 : w8.cell? ⟨b, 0, none⟩ = some (.bool c.ns) := hC8.cell 0; have m1 : w8.cell? ⟨b, 1, none⟩ = some (.bool c.nc) := hC8.cell 1; have m2 : w8.cell? ⟨b, 2, none⟩ = some (.bool c.nt) := hC8.cell 2; have m3 : w8.cell? ⟨b, 3, none⟩ = some (.bool c.pu) := hC8.cell 3; have m4 : w8.cell? ⟨b, 4, none⟩ = some (.bool c.pr) := hC8.cell 4; have m5 : w8.cell? ⟨b, 5, none⟩ = some (.bool c.mr) := hC8.cell 5; have m6 : w8.cell? ⟨b, 6, none⟩ = some (.bool c.px) := hC8.cell 6; have m7 : w8.cell? ⟨b, 7, none⟩ = some (.bool c.oi) := hC8.cell 7; have m8 : w8.cell? ⟨b, 8, none⟩ = some (.int .i64 c.ma) := hC8.cell 8; have m9 : w8.cell? ⟨b, 9, none⟩ = some (.int .i64 c.sm) := hC8.cell 9; have m10 : w8.cell? ⟨b, 10, none⟩ = some (.int .i64 c.mf) := hC8.cell 10; have m11 : w8.cell? ⟨b, 11, none⟩ = some (.int .i64 c.ms) := hC8.cell 11)
        by_cases hcn : ca = n
        all_goals
          first | (have hcn' := hcn.symm; clear hcn; subst hcn'; rw [if_pos rfl, Nat.sub_self] at hD) | rw [if_neg hcn] at hD
          go_wp2_with fail
          go_region_held3 (fun w' => w'.cell? ⟨b, 0, none⟩ = some (.bool c.ns) ∧ w'.cell? ⟨b, 1, none⟩ = some (.bool c.nc) ∧ w'.cell? ⟨b, 2, none⟩ = some (.bool c.nt) ∧ w'.cell? ⟨b, 3, none⟩ = some (.bool c.pu) ∧ w'.cell? ⟨b, 4, none⟩ = some (.bool c.pr) ∧ w'.cell? ⟨b, 5, none⟩ = some (.bool c.mr) ∧ w'.cell? ⟨b, 6, none⟩ = some (.bool c.px) ∧ w'.cell? ⟨b, 7, none⟩ = some (.bool c.oi) ∧ w'.cell? ⟨b, 8, none⟩ = some (.int .i64 c.ma) ∧ w'.cell? ⟨b, 9, none⟩ = some (.int .i64 c.sm) ∧ w'.cell? ⟨b, 10, none⟩ = some (.int .i64 c.mf) ∧ w'.cell? ⟨b, 11, none⟩ = some (.int .i64 c.ms))
            (first | go_keep)
            ((first
              | (refine step_of ?_ (by rfl); refine wp_appRd _ _ 26 rfl w6.heap.size 45 (.agg #[.string ByteArray.empty, .string ByteArray.empty, .bool false]) 3 40 Tryd.underlying26 (by kernel_rfl) rfl (by decide) _ _ _ rfl (by exact hown3) _ _ _ _ rfl (by exact hD) (fcells_one _) (by unfold maxLen; omega) (by omega) (by simp; omega) ?_; intro a3 c3 w9 hown9 hb9; have hC9 := hC8.drew.below hb9 hC6lt; (have m0 : w9.cell? ⟨b, 0, none⟩ = some (.bool c.ns) := hC9.cell 0; have m1 : w9.cell? ⟨b, 1, none⟩ = some (.bool c.nc) := hC9.cell 1; have m2 : w9.cell? ⟨b, 2, none⟩ = some (.bool c.nt) := hC9.cell 2; have m3 : w9.cell? ⟨b, 3, none⟩ = some (.bool c.pu) := hC9.cell 3; have m4 : w9.cell? ⟨b, 4, none⟩ = some (.bool c.pr) := hC9.cell 4; have m5 : w9.cell? ⟨b, 5, none⟩ = some (.bool c.mr) := hC9.cell 5; have m6 : w9.cell? ⟨b, 6, none⟩ = some (.bool c.px) := hC9.cell 6; have m7 : w9.cell? ⟨b, 7, none⟩ = some (.bool c.oi) := hC9.cell 7; have m8 : w9.cell? ⟨b, 8, none⟩ = some (.int .i64 c.ma) := hC9.cell 8; have m9 : w9.cell? ⟨b, 9, none⟩ = some (.int .i64 c.sm) := hC9.cell 9; have m10 : w9.cell? ⟨b, 10, none⟩ = some (.int .i64 c.mf) := hC9.cell 10; have m11 : w9.cell? ⟨b, 11, none⟩ = some (.int .i64 c.ms) := hC9.cell 11); have hF9 : Fs w9.heap.size w9 (.slice a3 (n + 1 + (l.length - n)) c3) (l.take n ++ [staleF] ++ l.drop n) := by have := Rd.own hown9; unfold Fs; rw [HN.out, fcells_append, fcells_append]; exact this)
              | (go_at_call 35; refine (Read_at c _ HS.out _ _ hF9 HB9.out).mono ?_; rintro e w10 ⟨rfl, hb10⟩; have hC10 := hC9.on hb10; (have k0 : w10.cell? ⟨b, 0, none⟩ = some (.bool c.ns) := hC10.cell 0; have k1 : w10.cell? ⟨b, 1, none⟩ = some (.bool c.nc) := hC10.cell 1; have k2 : w10.cell? ⟨b, 2, none⟩ = some (.bool c.nt) := hC10.cell 2; have k3 : w10.cell? ⟨b, 3, none⟩ = some (.bool c.pu) := hC10.cell 3; have k4 : w10.cell? ⟨b, 4, none⟩ = some (.bool c.pr) := hC10.cell 4; have k5 : w10.cell? ⟨b, 5, none⟩ = some (.bool c.mr) := hC10.cell 5; have k6 : w10.cell? ⟨b, 6, none⟩ = some (.bool c.px) := hC10.cell 6; have k7 : w10.cell? ⟨b, 7, none⟩ = some (.bool c.oi) := hC10.cell 7; have k8 : w10.cell? ⟨b, 8, none⟩ = some (.int .i64 c.ma) := hC10.cell 8; have k9 : w10.cell? ⟨b, 9, none⟩ = some (.int .i64 c.sm) := hC10.cell 9; have k10 : w10.cell? ⟨b, 10, none⟩ = some (.int .i64 c.mf) := hC10.cell 10; have k11 : w10.cell? ⟨b, 11, none⟩ = some (.int .i64 c.ms) := hC10.cell 11))))
          have hz9 : w8.heap.size ≤ w9.heap.size := hb9.size
          go_wp2
          go_ret
          exact ⟨rfl, hw8.trans ((((Below.refl w6.heap.size w8).drew.trans hb9).mono hw6s).trans (hb10.mono (by omega)))⟩
      · skip
        have hp' : decide (0 < at') = false := by rw [decide_eq_false_iff_not]; exact hp
        clear hp
        have hT : Rd w6.heap.size w6 3 (.slice pa 0 ca) 0 (fcells []) := by have := Rd.upto l6 (Nat.zero_le _); simpa [fcells] using this
        have hal : Below w6.heap.size w6 (w6.alloc (.cells #[] 45)) := (Below.refl _ _).alloc (Nat.le_refl _) _
        have HS := Lib.hid ((readC_insert l 0 staleF readC_stale).trans Hc.out)
        rw [List.take_zero, List.nil_append, List.drop_zero] at HS
        have HN : Hid (([staleF] ++ l).length = 1 + l.length) := by show _ = _; simp; omega
        have HB9 : Hid (fsum ([staleF] ++ l) ≤ 1099511627776) := by
          show _ ≤ _
          rw [fsum_append, show fsum [staleF] = 80 by decide]
          omega
        go_wp2_with (first | (at_builtin; refine wpList_appF rfl _ _ 26 rfl w6.heap.size Tryd.underlying26 (by kernel_rfl) _ _ _ rfl hown2 rfl (by omega) (by have := hb2.size; simp at this; omega) rfl ?_; intro a'' c'' w8 hown3 hb3 hz3; simp only [Nat.zero_add, List.nil_append] at hown3) | (at_builtin; refine wpList_appRd rfl _ _ 26 rfl w6.heap.size 45 (.agg #[.string ByteArray.empty, .string ByteArray.empty, .bool false]) 3 40 Tryd.underlying26 (by kernel_rfl) rfl (by decide) _ _ _ rfl (World.ownsRow_lit (base := w6.heap.size) (e := 45) (size := 3) w6 #[] 0 (Nat.le_refl _) (by decide) rfl) _ _ _ _ rfl (hT.below hal) (fcells_one _) (by unfold maxLen; omega) (by omega) (by simp) ?_; intro a' c' w7 hown2 hb2; simp only [Nat.zero_add, List.nil_append, List.toList_toArray, show fcells [] = [] from rfl] at hown2))
        have h68 : Below w6.heap.size w6 w8 := (hal.trans hb2).trans hb3
        have hC8 := hCn.on h68
        have hD : Rd w6.heap.size w8 3 (.slice pa l.length ca) l.length (fcells l) := Rd.below l6 h68
        have hw8 := hw6.trans (h68.mono hw6.size)
        have hz8 := h68.size
        clear hT hal hb2 hb3 hown2 l6 hw6
        (have m0 : w8.cell? ⟨b, 0, none⟩ = some (.bool c.ns) := hC8.cell 0; have m1 : w8.cell? ⟨b, 1, none⟩ = some (.bool c.nc) := hC8.cell 1; have m2 : w8.cell? ⟨b, 2, none⟩ = some (.bool c.nt) := hC8.cell 2; have m3 : w8.cell? ⟨b, 3, none⟩ = some (.bool c.pu) := hC8.cell 3; have m4 : w8.cell? ⟨b, 4, none⟩ = some (.bool c.pr) := hC8.cell 4; have m5 : w8.cell? ⟨b, 5, none⟩ = some (.bool c.mr) := hC8.cell 5; have m6 : w8.cell? ⟨b, 6, none⟩ = some (.bool c.px) := hC8.cell 6; have m7 : w8.cell? ⟨b, 7, none⟩ = some (.bool c.oi) := hC8.cell 7; have m8 : w8.cell? ⟨b, 8, none⟩ = some (.int .i64 c.ma) := hC8.cell 8; have m9 : w8.cell? ⟨b, 9, none⟩ = some (.int .i64 c.sm) := hC8.cell 9; have m10 : w8.cell? ⟨b, 10, none⟩ = some (.int .i64 c.mf) := hC8.cell 10; have m11 : w8.cell? ⟨b, 11, none⟩ = some (.int .i64 c.ms) := hC8.cell 11)
        go_wp2_with fail
        go_region_held3 (fun w' => w'.cell? ⟨b, 0, none⟩ = some (.bool c.ns) ∧ w'.cell? ⟨b, 1, none⟩ = some (.bool c.nc) ∧ w'.cell? ⟨b, 2, none⟩ = some (.bool c.nt) ∧ w'.cell? ⟨b, 3, none⟩ = some (.bool c.pu) ∧ w'.cell? ⟨b, 4, none⟩ = some (.bool c.pr) ∧ w'.cell? ⟨b, 5, none⟩ = some (.bool c.mr) ∧ w'.cell? ⟨b, 6, none⟩ = some (.bool c.px) ∧ w'.cell? ⟨b, 7, none⟩ = some (.bool c.oi) ∧ w'.cell? ⟨b, 8, none⟩ = some (.int .i64 c.ma) ∧ w'.cell? ⟨b, 9, none⟩ = some (.int .i64 c.sm) ∧ w'.cell? ⟨b, 10, none⟩ = some (.int .i64 c.mf) ∧ w'.cell? ⟨b, 11, none⟩ = some (.int .i64 c.ms))
          (first | go_keep)
          ((first
            | (refine step_of ?_ (by rfl); refine wp_appRd _ _ 26 rfl w6.heap.size 45 (.agg #[.string ByteArray.empty, .string ByteArray.empty, .bool false]) 3 40 Tryd.underlying26 (by kernel_rfl) rfl (by decide) _ _ _ rfl (by exact hown3) _ _ _ _ rfl (by exact hD) (fcells_one _) (by unfold maxLen; omega) (by omega) (by simp; omega) ?_; intro a3 c3 w9 hown9 hb9; have hC9 := hC8.drew.below hb9 hC6lt; (have m0 : w9.cell? ⟨b, 0, none⟩ = some (.bool c.ns) := hC9.cell 0; have m1 : w9.cell? ⟨b, 1, none⟩ = some (.bool c.nc) := hC9.cell 1; have m2 : w9.cell? ⟨b, 2, none⟩ = some (.bool c.nt) := hC9.cell 2; have m3 : w9.cell? ⟨b, 3, none⟩ = some (.bool c.pu) := hC9.cell 3; have m4 : w9.cell? ⟨b, 4, none⟩ = some (.bool c.pr) := hC9.cell 4; have m5 : w9.cell? ⟨b, 5, none⟩ = some (.bool c.mr) := hC9.cell 5; have m6 : w9.cell? ⟨b, 6, none⟩ = some (.bool c.px) := hC9.cell 6; have m7 : w9.cell? ⟨b, 7, none⟩ = some (.bool c.oi) := hC9.cell 7; have m8 : w9.cell? ⟨b, 8, none⟩ = some (.int .i64 c.ma) := hC9.cell 8; have m9 : w9.cell? ⟨b, 9, none⟩ = some (.int .i64 c.sm) := hC9.cell 9; have m10 : w9.cell? ⟨b, 10, none⟩ = some (.int .i64 c.mf) := hC9.cell 10; have m11 : w9.cell? ⟨b, 11, none⟩ = some (.int .i64 c.ms) := hC9.cell 11); have hF9 : Fs w9.heap.size w9 (.slice a3 (1 + l.length) c3) ([staleF] ++ l) := by have := Rd.own hown9; unfold Fs; rw [HN.out, fcells_append]; exact this)
            | (go_at_call 35; refine (Read_at c _ HS.out _ _ hF9 HB9.out).mono ?_; rintro e w10 ⟨rfl, hb10⟩; have hC10 := hC9.on hb10; (have k0 : w10.cell? ⟨b, 0, none⟩ = some (.bool c.ns) := hC10.cell 0; have k1 : w10.cell? ⟨b, 1, none⟩ = some (.bool c.nc) := hC10.cell 1; have k2 : w10.cell? ⟨b, 2, none⟩ = some (.bool c.nt) := hC10.cell 2; have k3 : w10.cell? ⟨b, 3, none⟩ = some (.bool c.pu) := hC10.cell 3; have k4 : w10.cell? ⟨b, 4, none⟩ = some (.bool c.pr) := hC10.cell 4; have k5 : w10.cell? ⟨b, 5, none⟩ = some (.bool c.mr) := hC10.cell 5; have k6 : w10.cell? ⟨b, 6, none⟩ = some (.bool c.px) := hC10.cell 6; have k7 : w10.cell? ⟨b, 7, none⟩ = some (.bool c.oi) := hC10.cell 7; have k8 : w10.cell? ⟨b, 8, none⟩ = some (.int .i64 c.ma) := hC10.cell 8; have k9 : w10.cell? ⟨b, 9, none⟩ = some (.int .i64 c.sm) := hC10.cell 9; have k10 : w10.cell? ⟨b, 10, none⟩ = some (.int .i64 c.mf) := hC10.cell 10; have k11 : w10.cell? ⟨b, 11, none⟩ = some (.int .i64 c.ms) := hC10.cell 11))))
        have hz9 : w8.heap.size ≤ w9.heap.size := hb9.size
        go_wp2
        go_ret
        exact ⟨rfl, hw8.trans ((((Below.refl w6.heap.size w8).drew.trans hb9).mono hw6s).trans (hb10.mono (by omega)))⟩
    · rw [show ((j + 1 : Nat) : Int) - 1 = (j : Int) by omega]
      obtain ⟨b', off, rfl, hbb, c0, c1, c2⟩ := (l4.below hbel).at j (by omega)
      have HR := Lib.hid (rev_drop l j (by omega))
      have hrl : (l.drop (j + 1)).reverse.length ≤ l.length := by simp
      generalize (l.drop (j + 1)).reverse = r at *
      go_wp2_with (at_builtin; refine wpList_appF rfl _ _ 26 rfl w4.heap.size Tryd.underlying26 (by kernel_rfl) _ _ _ rfl hown rfl (by omega) hbel.size rfl ?_; intro a' c' w5 hown2 hb5 hz5)
      go_roundw
      case rel => exact ⟨j, by omega, by go_num, by rw [HR.out, fcells_append, List.length_append]; exact hown2, hbel.trans hb5⟩
      case measure => simp [intOf]
end Go.Proofs.YtcicpboblppfiaaDoor
