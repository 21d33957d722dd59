/- Parts of the proof of DealLacks_holds: the texts Rf18c Rf18d. -/
import Derived.Deep.DeepCutAuto
import Derived.Test.YtahapblgmehngaaGreatDoorC12
import Derived.Test.YtahapblgmehngaaGreatDoorC19
import Derived.Test.YtahapblgmehngaaGreatDoorC17
import Derived.Test.YtahapblgmehngaaGreatDoorC16
import Derived.Test.YtahapblgmehngaaGreatDoorC15
set_option linter.unusedSimpArgs false
set_option linter.unusedVariables false
set_option linter.unnecessarySimpa false
namespace Go.Dr
def knownN : List Nat := [200, 203, 204, 300, 301, 308, 404, 405, 410, 414, 501]
theorem known_hit (st : Int) (k : Nat) (hk : k < knownN.length) (h : (knownN[k] : Int) = st) : knownB st = true := by
  subst h
  have : k < 11 := hk
  match k, this with
  | 0, _ | 1, _ | 2, _ | 3, _ | 4, _ | 5, _ | 6, _ | 7, _ | 8, _ | 9, _ | 10, _ => rfl
theorem known_miss (st : Int) (h : ∀ j (hj : j < knownN.length), (knownN[j] : Int) ≠ st) : knownB st = false := by
  have h0 := h 0 (by decide); have h1 := h 1 (by decide); have h2 := h 2 (by decide); have h3 := h 3 (by decide)
  have h4 := h 4 (by decide); have h5 := h 5 (by decide); have h6 := h 6 (by decide); have h7 := h 7 (by decide)
  have h8 := h 8 (by decide); have h9 := h 9 (by decide); have h10 := h 10 (by decide)
  simp [knownN] at h0 h1 h2 h3 h4 h5 h6 h7 h8 h9 h10
  simp [knownB, knownL]
  omega
end Go.Dr
namespace Go.Proofs.YtahapblgmehngaaGreatDoor
open Go.RowKit Go.Dr

set_option maxRecDepth 100000 in
set_option maxHeartbeats 1000000 in
theorem refKnown_any (st : Int) (w : World) : Calls Tryz.prog 78 #[.int .i64 st] w fun e w' => e = .returned (.bool (knownB st)) ∧ Below w.heap.size w w' := by
  have HH := Lib.hid (fun k hk h => known_hit st k hk h)
  have HM := Lib.hid (fun h => known_miss st h)
  generalize knownB st = kb at *
  obtain ⟨w0, ew⟩ : ∃ w0 : World, w0 = w.alloc (.cells (knownN.map I8).toArray 3) := ⟨_, rfl⟩
  have hI : Is w0.heap.size w0 (.slice (some ⟨w.heap.size, 0, none⟩) 11 11) knownN := by
    rw [ew]
    exact (Rd.lit w 3 (knownN.map I8).toArray 1 11 rfl (by decide)).mono (by simp)
  have hb0 : Below w.heap.size w w0 := by rw [ew]; exact (Below.refl _ _).alloc (Nat.le_refl _) _
  go_enter Tryz.func78, Tryz.ntmps78
  go_wp2
  change Code.wp _ _ _ _ (w.alloc (.cells (knownN.map I8).toArray 3))
  rw [← ew]
  clear ew
  go_loop [4] (fun i => ∃ k : Nat, i = .int .i64 k ∧ k ≤ 11 ∧ Hid (∀ j (hj : j < knownN.length), j < k → (knownN[j] : Int) ≠ st)) (fun i => 11 - (intOf i).toNat)
  case atStart => exact ⟨0, rfl, Nat.zero_le _, Lib.hid (fun j hj h => by omega)⟩
  case round =>
    obtain ⟨k, rfl, hk, HJ⟩ := hrel
    by_cases hlt : k < 11
    · have hk' : k < knownN.length := hlt
      obtain ⟨b, off, hbo, hbb, c0⟩ := hI.at k hk'
      simp only [Option.some.injEq, Addr.mk.injEq, and_true] at hbo
      obtain ⟨rfl, rfl⟩ := hbo
      rw [Nat.zero_add] at c0
      obtain ⟨x, hx⟩ : ∃ x, knownN[k]'hk' = x := ⟨_, rfl⟩
      rw [hx] at c0
      have HX := Lib.hid hx
      clear hx
      by_cases he : (x : Int) = st
      · have g : ((x : Int) == st) = true := by simp [he]
        have HR := Lib.hid (HH.out k hk' (by rw [HX.out]; exact he))
        clear he
        go_wp2
        go_ret
        exact ⟨ret_bool HR.out.symm, hb0⟩
      · have g : ((x : Int) == st) = false := by simp [he]
        have HJ2 : Hid (∀ j (hj : j < knownN.length), j < k + 1 → (knownN[j] : Int) ≠ st) := Lib.hid (fun j hj h => by
          by_cases e : j = k
          · subst e; rw [HX.out]; exact he
          · exact HJ.out j hj (by omega))
        clear he
        go_wp2
        go_round
        case rel => exact ⟨k + 1, by go_num, by omega, HJ2⟩
        case measure => simp [intOf]; omega
    · have HR := Lib.hid (HM.out (fun j hj => HJ.out j hj (by have : j < 11 := hj; omega)))
      go_wp2
      go_ret
      exact ⟨ret_bool HR.out.symm, hb0⟩

end Go.Proofs.YtahapblgmehngaaGreatDoor

namespace Go.Dr
theorem same_comm (a b : Bytes) : same a b = same b a := by unfold same; rw [Bool.eq_iff_iff]; simp only [beq_iff_eq]; exact eq_comm
theorem among_any (n : Bytes) (l : List Bytes) : among n l = l.any fun x => same x n := by
  unfold among
  congr 1
  funext x
  exact same_comm n x
end Go.Dr
namespace Go.Proofs.YtahapblgmehngaaGreatDoor
open Go.RowKit Go.Dr

theorem ret_rsays {W : World} {tmps : Array Value} {b : Nat} {c : Ctl} {R : Ending → World → Prop} (hs : tmps[2]? = some (.pointer (some ⟨b, 0, none⟩))) (h : Blk W b 80 c.cells) (hR : R (.returned c.val) W) :
    bodyPost Tryz.prog Tryz.f40 R .ret { tmps := tmps, defers := [] } W := by
  (have g0 : W.cell? ⟨b, 0, none⟩ = some (.bool c.ns) := h.cell 0; have g1 : W.cell? ⟨b, 1, none⟩ = some (.bool c.nc) := h.cell 1; have g2 : W.cell? ⟨b, 2, none⟩ = some (.bool c.nt) := h.cell 2; have g3 : W.cell? ⟨b, 3, none⟩ = some (.bool c.pu) := h.cell 3; have g4 : W.cell? ⟨b, 4, none⟩ = some (.bool c.pr) := h.cell 4; have g5 : W.cell? ⟨b, 5, none⟩ = some (.bool c.mr) := h.cell 5; have g6 : W.cell? ⟨b, 6, none⟩ = some (.bool c.px) := h.cell 6; have g7 : W.cell? ⟨b, 7, none⟩ = some (.bool c.oi) := h.cell 7; have g8 : W.cell? ⟨b, 8, none⟩ = some (.int .i64 c.ma) := h.cell 8; have g9 : W.cell? ⟨b, 9, none⟩ = some (.int .i64 c.sm) := h.cell 9; have g10 : W.cell? ⟨b, 10, none⟩ = some (.int .i64 c.mf) := h.cell 10; have g11 : W.cell? ⟨b, 11, none⟩ = some (.int .i64 c.ms) := h.cell 11)
  exact bodyPost_ret (v := c.val) (by simp [results, Tryz.results40, go_sem, hs, g0, g1, g2, g3, g4, g5, g6, g7, g8, g9, g10, g11]) rfl hR

set_option maxRecDepth 100000 in
set_option maxHeartbeats 4000000 in
theorem refSays18_any (r : Rq) (l : List F) (w : World) (h : Fs w.heap.size w r.v l) (hl : fsum l ≤ 1099511627776) :
    Calls Tryz.prog 40 #[r.val] w fun e w' => e = .returned (saysC l).val ∧ Below w.heap.size w w' := by
  obtain ⟨pr, cr, hrv, -⟩ := h.form
  obtain ⟨rm, rs, ra, rp, rv⟩ := r
  simp only at hrv h
  subst hrv
  simp only [Rq.val]
  have HP : Hid (pragB l = (!hasB l cacheControl && among noCache (allOf l pragmaT))) := Lib.hid (by rw [among_any]; rfl)
  have HY := Lib.hid (fun h => says_yes (l := l) h)
  have HN := Lib.hid (fun h => says_no (l := l) h)
  generalize saysC l = C at *
  generalize pragB l = pb at *
  obtain ⟨w0, ew⟩ : ∃ w0 : World, w0 = (w.alloc (.cells #[S rm, S rs, S ra, S rp, .slice pr l.length cr] 28)).alloc (.cells #[.bool false, .bool false, .bool false, .bool false, .bool false, .bool false, .bool false, .bool false, .int .i64 0, .int .i64 0, .int .i64 0, .int .i64 0] 80) := ⟨_, rfl⟩
  have hQ0 : Blk w0 w.heap.size 28 #[S rm, S rs, S ra, S rp, .slice pr l.length cr] := by rw [ew]; exact (Blk.new _ _ _).alloc _
  have hZ0 : Blk w0 (w.heap.size + 1) 80 #[.bool false, .bool false, .bool false, .bool false, .bool false, .bool false, .bool false, .bool false, .int .i64 0, .int .i64 0, .int .i64 0, .int .i64 0] := by
    rw [ew]
    have := Blk.new (w.alloc (.cells #[S rm, S rs, S ra, S rp, .slice pr l.length cr] 28)) 80 #[.bool false, .bool false, .bool false, .bool false, .bool false, .bool false, .bool false, .bool false, .int .i64 0, .int .i64 0, .int .i64 0, .int .i64 0]
    rwa [show (w.alloc (.cells #[S rm, S rs, S ra, S rp, .slice pr l.length cr] 28)).heap.size = w.heap.size + 1 by simp] at this
  have hb0 : Below w.heap.size w w0 := by rw [ew]; exact ((Below.refl _ _).alloc (Nat.le_refl _) _).alloc (by simp) _
  have h0 := (h.below hb0).mono hb0.size
  have hz0 := hZ0.lt
  go_enter Tryz.func40, Tryz.ntmps40
  go_wp2_with fail
  rw [← ew]
  clear ew h
  refine (refRead_any l _ w0 h0 hl).mono ?_
  rintro e w1 ⟨rfl, hb1⟩
  have hQ1 := hQ0.on hb1
  have hZ1 := hZ0.on hb1
  have h1 := (h0.below hb1).mono hb1.size
  have hw1 := Bl.tr hb0 hb1
  have hz1 : w.heap.size + 1 < w1.heap.size := Nat.lt_of_lt_of_le hz0 hb1.size
  clear hQ0 hZ0 h0 hb0 hb1 hz0
  generalize readC l = c at *
  have hal : Below w1.heap.size w1 (w1.alloc (.cells #[.bool c.ns, .bool c.nc, .bool c.nt, .bool c.pu, .bool c.pr, .bool c.mr, .bool c.px, .bool c.oi, .int .i64 c.ma, .int .i64 c.sm, .int .i64 c.mf, .int .i64 c.ms] 80)) := (Below.refl _ _).alloc (Nat.le_refl _) _
  have hX2 := Blk.new w1 80 c.cells
  have hQ2 := hQ1.on hal
  have hZ2 := hZ1.on hal
  have h2 := (h1.below hal).mono hal.size
  have hw2 := Bl.tr hw1 hal
  have q4 : w1.cell? ⟨w.heap.size, 4, none⟩ = some (.slice pr l.length cr) := hQ1.cell 4
  have hlt := hQ1.lt
  go_wp2_with fail
  clear hlt
  change Calls _ _ _ (w1.alloc (.cells c.cells 80)) _
  change Blk (w1.alloc (.cells c.cells 80)) w.heap.size _ _ at hQ2
  change Blk (w1.alloc (.cells c.cells 80)) (w.heap.size + 1) _ _ at hZ2
  change Fs (w1.alloc (.cells c.cells 80)).heap.size (w1.alloc (.cells c.cells 80)) _ _ at h2
  change Below w.heap.size w (w1.alloc (.cells c.cells 80)) at hw2
  clear hal
  generalize w1.alloc (.cells c.cells 80) = w2 at *
  clear hQ1 hZ1 h1 hw1 q4
  generalize w1.heap.size = bc at *
  refine (refHas_any l cacheControl _ w2 h2 hl (by decide)).mono ?_
  rintro e w3 ⟨rfl, hb3⟩
  have hQ3 := hQ2.on hb3
  have hX3 := hX2.on hb3
  have hZ3 := hZ2.on hb3
  have h3 := (h2.below hb3).mono hb3.size
  have hw3 := Bl.tr hw2 hb3
  clear hQ2 hX2 hZ2 h2 hw2 hb3
  have hsa := ssum_all l pragmaT
  generalize hasB l cacheControl = hb at *
  have q4 : w3.cell? ⟨w.heap.size, 4, none⟩ = some (.slice pr l.length cr) := hQ3.cell 4
  cases hb with
  | false =>
    go_wp2_with fail
    refine (refAll_any l pragmaT _ w3 h3 hl (by decide)).mono ?_
    rintro e wa ⟨vt, rfl, hvt, hba⟩
    have hta := Ss.own hvt
    have hXa := hX3.on hba
    have hZa := hZ3.on hba
    have hwa := Bl.tr hw3 hba
    clear hvt hQ3 hX3 hZ3 h3 hw3 hba q4
    generalize allOf l pragmaT = tags at *
    go_wp2_with fail
    refine (Among_any noCache tags _ wa hta (by decide) (by omega)).mono ?_
    rintro e w4 ⟨rfl, hb4⟩
    have hX4 := hXa.on hb4
    have hZ4 := hZa.on hb4
    have hw4 := Bl.tr hwa hb4
    clear hXa hZa hwa hb4 hta
    generalize among noCache tags = a at *
    (have x0 : w4.cell? ⟨bc, 0, none⟩ = some (.bool c.ns) := hX4.cell 0; have x1 : w4.cell? ⟨bc, 1, none⟩ = some (.bool c.nc) := hX4.cell 1; have x2 : w4.cell? ⟨bc, 2, none⟩ = some (.bool c.nt) := hX4.cell 2; have x3 : w4.cell? ⟨bc, 3, none⟩ = some (.bool c.pu) := hX4.cell 3; have x4 : w4.cell? ⟨bc, 4, none⟩ = some (.bool c.pr) := hX4.cell 4; have x5 : w4.cell? ⟨bc, 5, none⟩ = some (.bool c.mr) := hX4.cell 5; have x6 : w4.cell? ⟨bc, 6, none⟩ = some (.bool c.px) := hX4.cell 6; have x7 : w4.cell? ⟨bc, 7, none⟩ = some (.bool c.oi) := hX4.cell 7; have x8 : w4.cell? ⟨bc, 8, none⟩ = some (.int .i64 c.ma) := hX4.cell 8; have x9 : w4.cell? ⟨bc, 9, none⟩ = some (.int .i64 c.sm) := hX4.cell 9; have x10 : w4.cell? ⟨bc, 10, none⟩ = some (.int .i64 c.mf) := hX4.cell 10; have x11 : w4.cell? ⟨bc, 11, none⟩ = some (.int .i64 c.ms) := hX4.cell 11)
    have fx := hX4.free 1
    have fz := hZ4.free
    (have z0 : w4.cell? ⟨w.heap.size + 1, 0, none⟩ = some (.bool false) := hZ4.cell 0; have z1 : w4.cell? ⟨w.heap.size + 1, 1, none⟩ = some (.bool false) := hZ4.cell 1; have z2 : w4.cell? ⟨w.heap.size + 1, 2, none⟩ = some (.bool false) := hZ4.cell 2; have z3 : w4.cell? ⟨w.heap.size + 1, 3, none⟩ = some (.bool false) := hZ4.cell 3; have z4 : w4.cell? ⟨w.heap.size + 1, 4, none⟩ = some (.bool false) := hZ4.cell 4; have z5 : w4.cell? ⟨w.heap.size + 1, 5, none⟩ = some (.bool false) := hZ4.cell 5; have z6 : w4.cell? ⟨w.heap.size + 1, 6, none⟩ = some (.bool false) := hZ4.cell 6; have z7 : w4.cell? ⟨w.heap.size + 1, 7, none⟩ = some (.bool false) := hZ4.cell 7; have z8 : w4.cell? ⟨w.heap.size + 1, 8, none⟩ = some (.int .i64 0) := hZ4.cell 8; have z9 : w4.cell? ⟨w.heap.size + 1, 9, none⟩ = some (.int .i64 0) := hZ4.cell 9; have z10 : w4.cell? ⟨w.heap.size + 1, 10, none⟩ = some (.int .i64 0) := hZ4.cell 10; have z11 : w4.cell? ⟨w.heap.size + 1, 11, none⟩ = some (.int .i64 0) := hZ4.cell 11)
    cases a with
    | true =>
      have HC := Lib.hid (HY.out (by rw [HP.out]; rfl))
      go_wp2_with fail
      have hR := (hZ4.other (p := ⟨bc, 1, none⟩) (by show w.heap.size + 1 ≠ bc; omega) (.bool true)).set12 (.bool c.ns) (.bool true) (.bool c.nt) (.bool c.pu) (.bool c.pr) (.bool c.mr) (.bool c.px) (.bool c.oi) (.int .i64 c.ma) (.int .i64 c.sm) (.int .i64 c.mf) (.int .i64 c.ms)
      have hB := Bl.set12 (hw4.setCell (p := ⟨bc, 1, none⟩) (by show w.heap.size ≤ bc; omega) (.bool true)) (b := w.heap.size + 1) (by omega) (.bool c.ns) (.bool true) (.bool c.nt) (.bool c.pu) (.bool c.pr) (.bool c.mr) (.bool c.px) (.bool c.oi) (.int .i64 c.ma) (.int .i64 c.sm) (.int .i64 c.mf) (.int .i64 c.ms)
      exact ret_rsays (c := { c with nc := true }) rfl hR ⟨by rw [HC.out], hB⟩
    | false =>
      have HC := Lib.hid (HN.out (by rw [HP.out]; rfl))
      go_wp2_with fail
      have hR := hZ4.set12 (.bool c.ns) (.bool c.nc) (.bool c.nt) (.bool c.pu) (.bool c.pr) (.bool c.mr) (.bool c.px) (.bool c.oi) (.int .i64 c.ma) (.int .i64 c.sm) (.int .i64 c.mf) (.int .i64 c.ms)
      have hB := Bl.set12 hw4 (b := w.heap.size + 1) (by omega) (.bool c.ns) (.bool c.nc) (.bool c.nt) (.bool c.pu) (.bool c.pr) (.bool c.mr) (.bool c.px) (.bool c.oi) (.int .i64 c.ma) (.int .i64 c.sm) (.int .i64 c.mf) (.int .i64 c.ms)
      exact ret_rsays (c := c) rfl hR ⟨by rw [HC.out], hB⟩
  | true =>
    have HC := Lib.hid (HN.out (by rw [HP.out]; rfl))
    clear hQ3
    (have x0 : w3.cell? ⟨bc, 0, none⟩ = some (.bool c.ns) := hX3.cell 0; have x1 : w3.cell? ⟨bc, 1, none⟩ = some (.bool c.nc) := hX3.cell 1; have x2 : w3.cell? ⟨bc, 2, none⟩ = some (.bool c.nt) := hX3.cell 2; have x3 : w3.cell? ⟨bc, 3, none⟩ = some (.bool c.pu) := hX3.cell 3; have x4 : w3.cell? ⟨bc, 4, none⟩ = some (.bool c.pr) := hX3.cell 4; have x5 : w3.cell? ⟨bc, 5, none⟩ = some (.bool c.mr) := hX3.cell 5; have x6 : w3.cell? ⟨bc, 6, none⟩ = some (.bool c.px) := hX3.cell 6; have x7 : w3.cell? ⟨bc, 7, none⟩ = some (.bool c.oi) := hX3.cell 7; have x8 : w3.cell? ⟨bc, 8, none⟩ = some (.int .i64 c.ma) := hX3.cell 8; have x9 : w3.cell? ⟨bc, 9, none⟩ = some (.int .i64 c.sm) := hX3.cell 9; have x10 : w3.cell? ⟨bc, 10, none⟩ = some (.int .i64 c.mf) := hX3.cell 10; have x11 : w3.cell? ⟨bc, 11, none⟩ = some (.int .i64 c.ms) := hX3.cell 11)
    have fz := hZ3.free
    (have z0 : w3.cell? ⟨w.heap.size + 1, 0, none⟩ = some (.bool false) := hZ3.cell 0; have z1 : w3.cell? ⟨w.heap.size + 1, 1, none⟩ = some (.bool false) := hZ3.cell 1; have z2 : w3.cell? ⟨w.heap.size + 1, 2, none⟩ = some (.bool false) := hZ3.cell 2; have z3 : w3.cell? ⟨w.heap.size + 1, 3, none⟩ = some (.bool false) := hZ3.cell 3; have z4 : w3.cell? ⟨w.heap.size + 1, 4, none⟩ = some (.bool false) := hZ3.cell 4; have z5 : w3.cell? ⟨w.heap.size + 1, 5, none⟩ = some (.bool false) := hZ3.cell 5; have z6 : w3.cell? ⟨w.heap.size + 1, 6, none⟩ = some (.bool false) := hZ3.cell 6; have z7 : w3.cell? ⟨w.heap.size + 1, 7, none⟩ = some (.bool false) := hZ3.cell 7; have z8 : w3.cell? ⟨w.heap.size + 1, 8, none⟩ = some (.int .i64 0) := hZ3.cell 8; have z9 : w3.cell? ⟨w.heap.size + 1, 9, none⟩ = some (.int .i64 0) := hZ3.cell 9; have z10 : w3.cell? ⟨w.heap.size + 1, 10, none⟩ = some (.int .i64 0) := hZ3.cell 10; have z11 : w3.cell? ⟨w.heap.size + 1, 11, none⟩ = some (.int .i64 0) := hZ3.cell 11)
    go_wp2_with fail
    have hR := hZ3.set12 (.bool c.ns) (.bool c.nc) (.bool c.nt) (.bool c.pu) (.bool c.pr) (.bool c.mr) (.bool c.px) (.bool c.oi) (.int .i64 c.ma) (.int .i64 c.sm) (.int .i64 c.mf) (.int .i64 c.ms)
    have hB := Bl.set12 hw3 (b := w.heap.size + 1) (by omega) (.bool c.ns) (.bool c.nc) (.bool c.nt) (.bool c.pu) (.bool c.pr) (.bool c.mr) (.bool c.px) (.bool c.oi) (.int .i64 c.ma) (.int .i64 c.sm) (.int .i64 c.mf) (.int .i64 c.ms)
    exact ret_rsays (c := c) rfl hR ⟨by rw [HC.out], hB⟩

end Go.Proofs.YtahapblgmehngaaGreatDoor

