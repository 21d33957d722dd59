
/- The walks of layer 17 (what an answer is kept for) and of its reference: what fields say of names. -/
import Derived.Test.YtnflihjgbkocnaaDoorHop6
import Derived.Test.YtnflihjgbkocnaaDoorVarS
import Derived.Test.YtnflihjgbkocnaaDoorHop
import Derived.Test.YtnflihjgbkocnaaDoorBase
import Derived.Deep.DrawnRows
import Derived.Deep.RegionHeld3
namespace Go.Proofs.YtnflihjgbkocnaaDoor
open Go.RowKit Go.Dr

/-- What fields say of a name: its small letters, its elements in one, whether it is there. -/
def saysF (name : Bytes) (l : List F) : F := ⟨low name, joinS (allOf l name), decide (0 < (values l name).length)⟩
/-- A struct of two texts and a mark, as a value; its cells. -/
abbrev fval (f : F) : Value := .agg #[S f.n, S f.v, .bool f.m]
abbrev fcl (f : F) : Array Value := #[S f.n, S f.v, .bool f.m]

set_option maxRecDepth 100000 in
set_option maxHeartbeats 2000000 in
theorem refSays_any (name : Bytes) (l : List F) (v : Value) (w : World) (h : Fs w.heap.size w v l) (hl : fsum l ≤ 1099511627776) (hn : name.length ≤ 1099511627776) :
    Calls Tryd.prog 45 #[S name, v] w fun e w' => e = .returned (fval (saysF name l)) ∧ Below w.heap.size w w' := by
  have HS := ssum_all l name
  have HY : Hid (saysF name l = ⟨low name, joinS (allOf l name), decide (0 < (values l name).length)⟩) := rfl
  go_enter Tryd.func45, Tryd.ntmps45
  go_wp2_with fail
  have hZ := Blk.new w 53 (fcl ⟨[], [], false⟩)
  have hal : Below w.heap.size w (w.alloc (.cells (fcl ⟨[], [], false⟩) 53)) := (Below.refl _ _).alloc (Nat.le_refl _) _
  refine (refAll_any l name v _ ((h.below hal).mono hal.size) hl hn).mono ?_
  rintro e w1 ⟨vv, rfl, hvv, hb1⟩
  have hw1 := Bl.tr hal hb1
  have hZ1 := hZ.on hb1
  have hl1 := (h.below hw1).mono hw1.size
  have hr : Ss w1.heap.size w1 vv (allOf l name) := Ss.own hvv
  clear hZ hal hb1 h hvv
  (generalize hgenvs : allOf l name = vs at *; have Hvs := Lib.hid hgenvs; clear hgenvs)
  obtain ⟨pa, ca, rfl, hm⟩ := hr.form
  go_wp2
  go_loopw [6, 7] (fun vs' i wr => ∃ k : Nat, i = .int .i64 k ∧ k ≤ vs.length ∧ vs' = S (joinS (vs.take k)) ∧ (joinS (vs.take k)).length ≤ 4398046511104 ∧ wr = w1) (fun _ i _ => vs.length - (intOf i).toNat)
  case atStart => exact ⟨0, rfl, Nat.zero_le _, rfl, Nat.zero_le _, rfl⟩
  case round =>
    obtain ⟨k, rfl, hk, rfl, hjl, hwe⟩ := hrel
    obtain rfl : w1 = wr := hwe.symm
    by_cases hlt : k < vs.length
    · obtain ⟨b, off, rfl, hbb, c0⟩ := hr.at k hlt
      have hf := ssum_mem (List.getElem_mem hlt)
      have HJ := Lib.hid (joinS_take vs k hlt)
      have hj1 := joinS_length (vs.take (k + 1))
      have hj2 := ssum_take vs (k + 1)
      have hjb : (joinS (vs.take (k + 1))).length ≤ 4398046511104 := by omega
      clear hj1 hj2
      generalize joinS (vs.take k) = q at *
      by_cases h0 : 0 < k
      · have HJ : Hid (joinS (vs.take (k + 1)) = q ++ [44, 32] ++ vs[k]) := by show _ = _; rw [HJ.out, if_pos h0]
        go_wp2
        go_roundw
        case rel => exact ⟨k + 1, by go_num, by omega, by rw [HJ.out]; simp, hjb, trivial⟩
        case measure => simp [intOf]; omega
      · have HJ : Hid (joinS (vs.take (k + 1)) = q ++ vs[k]) := by show _ = _; rw [HJ.out, if_neg h0, List.append_nil]
        go_wp2
        go_roundw
        case rel => exact ⟨k + 1, by go_num, by omega, by rw [HJ.out], hjb, trivial⟩
        case measure => simp [intOf]; omega
    · have hk' : k = vs.length := by omega
      subst hk'
      rw [List.take_length] at *
      go_wp2_with fail
      refine (refLower_any name w1 hn).mono ?_
      rintro e w2 ⟨rfl, hb2⟩
      have hZ2 := hZ1.on hb2
      have hw2 := Bl.tr hw1 hb2
      have hl2 := (hl1.below hb2).mono hb2.size
      clear hZ1 hw1 hl1 hb2
      go_wp2_with fail
      refine (refValues_any l name v w2 hl2 hl hn).mono ?_
      rintro e w3 ⟨vx, rfl, hvx, hb3⟩
      have hZ3 := hZ2.on hb3
      have hw3 := Bl.tr hw2 hb3
      obtain ⟨px, cx, rfl, hmx⟩ := (Ss.own hvx).form
      clear hZ2 hw2 hl2 hb3 hvx
      (generalize hgenq1 : low name = q1 at *; have Hq1 := Lib.hid hgenq1; clear hgenq1)
      (generalize hgenq3 : (values l name).length = q3 at *; have Hq3 := Lib.hid hgenq3; clear hgenq3)
      have z0 : w3.cell? ⟨w.heap.size, 0, none⟩ = some (S []) := hZ3.cell 0
      have z1 : w3.cell? ⟨w.heap.size, 1, none⟩ = some (S []) := hZ3.cell 1
      have z2 : w3.cell? ⟨w.heap.size, 2, none⟩ = some (.bool false) := hZ3.cell 2
      have zf := hZ3.free
      go_wp2
      have hR := ((hZ3.set 0 (S q1)).set 1 (S (joinS vs))).set 2 (.bool (decide (0 < q3)))
      have g0 := hR.cell 0
      have g1 := hR.cell 1
      have g2 := hR.cell 2
      simp at g0 g1 g2
      exact bodyPost_ret (v := fval ⟨q1, joinS vs, decide (0 < q3)⟩) (by simp [results, Tryd.results45, go_sem, g0, g1, g2]) rfl ⟨by rw [HY.out], ((hw3.setCell (Nat.le_refl _) _).setCell (Nat.le_refl _) _).setCell (Nat.le_refl _) _⟩
set_option maxRecDepth 100000 in
set_option maxHeartbeats 2000000 in
theorem says_any (name : Bytes) (l : List F) (v : Value) (G : Nat) (w : World) (hG : One w G 34 v) (h : Fs w.heap.size w v l) (hl : fsum l ≤ 1099511627776) (hn : name.length ≤ 1099511627776) :
    Calls Tryd.prog 47 #[S name, .pointer (some ⟨G, 0, none⟩)] w fun e w' => e = .returned (fval (saysF name l)) ∧ Below w.heap.size w w' := by
  have HS := ssum_all l name
  have HY : Hid (saysF name l = ⟨low name, joinS (allOf l name), decide (0 < (values l name).length)⟩) := rfl
  have hZ := Blk.new w 53 (fcl ⟨[], [], false⟩)
  have hal : Below w.heap.size w (w.alloc (.cells (fcl ⟨[], [], false⟩) 53)) := (Below.refl _ _).alloc (Nat.le_refl _) _
  have h1 := ((h.below hal).mono hal.size)
  have hG1 := hG.alloc (.cells (fcl ⟨[], [], false⟩) 53)
  have hGlt := hG.lt
  have cG := hG1.cell
  have hgz : G < w.heap.size + 1 := by omega
  have hne : ¬ G = w.heap.size := by omega
  have hne' : ¬ w.heap.size = G := by omega
  clear hG h
  generalize hlow : low name = q1 at *
  have Hq1 := Lib.hid hlow
  clear hlow
  go_enter Tryd.func47, Tryd.ntmps47
  go_wp2_with fail
  go_region_held3 (fun w' => w'.cell? ⟨G, 0, none⟩ = some v)
    (first | go_keep)
    (first
      | (go_at_call 48; refine (Lower_any _ _ (by unfold maxLen; omega)).mono ?_; rintro e w1 ⟨rfl, hb1⟩; rw [Hq1.out]; replace hb1 := Bl.undrew hb1; have hl1 := (h1.below hb1).mono hb1.size; have hZ1 := hZ.on hb1; have g1 := (hG1.below hb1 hG1.lt); have hw1 := Bl.tr hal hb1; clear h1 hZ hG1 cG hb1 hal; have cG := g1.cell)
      | (go_at_call 50; refine (All_any l name v _ hl1 hl hn).mono ?_; rintro e w2 ⟨vv, rfl, hvv, hb2⟩; have hl2 := (hl1.below hb2).mono hb2.size; have hZ2 := hZ1.on hb2; have g2 := (g1.below hb2 g1.lt); have hw2 := Bl.tr hw1 hb2; have hr2 := Ss.own hvv; clear hl1 hZ1 g1 cG hb2 hw1 hvv; have cG := g2.cell)
      | (go_at_call 49; refine (Joins_any (allOf l name) _ _ hr2 (by omega)).mono ?_; rintro e w3 ⟨rfl, hb3⟩; have hl3 := (hl2.below hb3).mono hb3.size; have hZ3 := hZ2.on hb3; have g3 := (g2.below hb3 g2.lt); have hw3 := Bl.tr hw2 hb3; clear hl2 hZ2 g2 cG hb3 hw2 hr2; have cG := g3.cell)
      | (go_at_call 51; refine (Values_any l name v _ hl3 hl hn).mono ?_; rintro e w4 ⟨vx, rfl, hvx, hb4⟩; have hZ4 := hZ3.on hb4; have g4 := (g3.below hb4 g3.lt); have hw4 := Bl.tr hw3 hb4; obtain ⟨px, cx, rfl, hmx⟩ := (Ss.own hvx).form; clear hl3 hZ3 g3 cG hb4 hw3 hvx; have cG := g4.cell; have z0 : w4.cell? ⟨w.heap.size, 0, none⟩ = some (S []) := hZ4.cell 0; have z1 : w4.cell? ⟨w.heap.size, 1, none⟩ = some (S []) := hZ4.cell 1; have z2 : w4.cell? ⟨w.heap.size, 2, none⟩ = some (.bool false) := hZ4.cell 2; have zf := hZ4.free))
  have hR := ((hZ4.set 0 (S q1)).set 1 (S (joinS (allOf l name)))).set 2 (.bool (decide (0 < (values l name).length)))
  have r0 := hR.cell 0
  have r1 := hR.cell 1
  have r2 := hR.cell 2
  simp at r0 r1 r2
  go_wp2
  exact bodyPost_ret (v := fval ⟨q1, joinS (allOf l name), decide (0 < (values l name).length)⟩) (by simp [results, Tryd.results47, go_sem, r0, r1, r2]) rfl ⟨by rw [HY.out], ((hw4.setCell (Nat.le_refl _) _).setCell (Nat.le_refl _) _).setCell (Nat.le_refl _) _⟩

end Go.Proofs.YtnflihjgbkocnaaDoor
