/- Parts of the proof of DealLacks_holds: the texts Var1 Var2. -/
import Derived.Deep.DrawnRows
import Derived.Deep.RegionHeld3
import Derived.Test.YtahapblgmehngaaGreatDoorC1
import Derived.Test.YtahapblgmehngaaGreatDoorC12
import Derived.Test.YtahapblgmehngaaGreatDoorC15
import Derived.Test.YtahapblgmehngaaGreatDoorC31
set_option linter.unusedSimpArgs false
set_option linter.unusedVariables false
set_option linter.unnecessarySimpa false
namespace Go.Proofs.YtahapblgmehngaaGreatDoor
open Go.RowKit Go.Dr

/-- What fields say of a name: its small letters, its elements in one, whether it is there. -/
def saysF (name : Bytes) (l : List F) : F := ⟨low name, joinS (allOf l name), decide (0 < (values l name).length)⟩
/-- A struct of two texts and a mark, as a value; its cells. -/
abbrev fval (f : F) : Value := .agg #[S f.n, S f.v, .bool f.m]
abbrev fcl (f : F) : Array Value := #[S f.n, S f.v, .bool f.m]

set_option maxRecDepth 100000 in
set_option maxHeartbeats 2000000 in
theorem refSays_any (name : Bytes) (l : List F) (v : Value) (w : World) (h : Fs w.heap.size w v l) (hl : fsum l ≤ 1099511627776) (hn : name.length ≤ 1099511627776) :
    Calls Tryz.prog 47 #[S name, v] w fun e w' => e = .returned (fval (saysF name l)) ∧ Below w.heap.size w w' := by
  have HS := ssum_all l name
  have HY : Hid (saysF name l = ⟨low name, joinS (allOf l name), decide (0 < (values l name).length)⟩) := rfl
  go_enter Tryz.func47, Tryz.ntmps47
  go_wp2_with fail
  have hZ := Blk.new w 89 (fcl ⟨[], [], false⟩)
  have hal : Below w.heap.size w (w.alloc (.cells (fcl ⟨[], [], false⟩) 89)) := (Below.refl _ _).alloc (Nat.le_refl _) _
  refine (refAll_any l name v _ ((h.below hal).mono hal.size) hl hn).mono ?_
  rintro e w1 ⟨vv, rfl, hvv, hb1⟩
  have hw1 := Bl.tr hal hb1
  have hZ1 := hZ.on hb1
  have hl1 := (h.below hw1).mono hw1.size
  have hr : Ss w1.heap.size w1 vv (allOf l name) := Ss.own hvv
  clear hZ hal hb1 h hvv
  (generalize hgenvs : allOf l name = vs at *; have Hvs := Lib.hid hgenvs; clear hgenvs)
  obtain ⟨pa, ca, rfl, hm⟩ := hr.form
  go_wp2
  go_loopw [6, 7] (fun vs' i wr => ∃ k : Nat, i = .int .i64 k ∧ k ≤ vs.length ∧ vs' = S (joinS (vs.take k)) ∧ (joinS (vs.take k)).length ≤ 4398046511104 ∧ wr = w1) (fun _ i _ => vs.length - (intOf i).toNat)
  case atStart => exact ⟨0, rfl, Nat.zero_le _, rfl, Nat.zero_le _, rfl⟩
  case round =>
    obtain ⟨k, rfl, hk, rfl, hjl, hwe⟩ := hrel
    obtain rfl : w1 = wr := hwe.symm
    by_cases hlt : k < vs.length
    · obtain ⟨b, off, rfl, hbb, c0⟩ := hr.at k hlt
      have hf := ssum_mem (List.getElem_mem hlt)
      have HJ := Lib.hid (joinS_take vs k hlt)
      have hj1 := joinS_length (vs.take (k + 1))
      have hj2 := ssum_take vs (k + 1)
      have hjb : (joinS (vs.take (k + 1))).length ≤ 4398046511104 := by omega
      clear hj1 hj2
      generalize joinS (vs.take k) = q at *
      by_cases h0 : 0 < k
      · have HJ : Hid (joinS (vs.take (k + 1)) = q ++ [44, 32] ++ vs[k]) := by show _ = _; rw [HJ.out, if_pos h0]
        go_wp2
        go_roundw
        case rel => exact ⟨k + 1, by go_num, by omega, by rw [HJ.out]; simp, hjb, trivial⟩
        case measure => simp [intOf]; omega
      · have HJ : Hid (joinS (vs.take (k + 1)) = q ++ vs[k]) := by show _ = _; rw [HJ.out, if_neg h0, List.append_nil]
        go_wp2
        go_roundw
        case rel => exact ⟨k + 1, by go_num, by omega, by rw [HJ.out], hjb, trivial⟩
        case measure => simp [intOf]; omega
    · have hk' : k = vs.length := by omega
      subst hk'
      rw [List.take_length] at *
      go_wp2_with fail
      refine (refLower_any name w1 hn).mono ?_
      rintro e w2 ⟨rfl, hb2⟩
      have hZ2 := hZ1.on hb2
      have hw2 := Bl.tr hw1 hb2
      have hl2 := (hl1.below hb2).mono hb2.size
      clear hZ1 hw1 hl1 hb2
      go_wp2_with fail
      refine (refValues_any l name v w2 hl2 hl hn).mono ?_
      rintro e w3 ⟨vx, rfl, hvx, hb3⟩
      have hZ3 := hZ2.on hb3
      have hw3 := Bl.tr hw2 hb3
      obtain ⟨px, cx, rfl, hmx⟩ := (Ss.own hvx).form
      clear hZ2 hw2 hl2 hb3 hvx
      (generalize hgenq1 : low name = q1 at *; have Hq1 := Lib.hid hgenq1; clear hgenq1)
      (generalize hgenq3 : (values l name).length = q3 at *; have Hq3 := Lib.hid hgenq3; clear hgenq3)
      have z0 : w3.cell? ⟨w.heap.size, 0, none⟩ = some (S []) := hZ3.cell 0
      have z1 : w3.cell? ⟨w.heap.size, 1, none⟩ = some (S []) := hZ3.cell 1
      have z2 : w3.cell? ⟨w.heap.size, 2, none⟩ = some (.bool false) := hZ3.cell 2
      have zf := hZ3.free
      go_wp2
      have hR := ((hZ3.set 0 (S q1)).set 1 (S (joinS vs))).set 2 (.bool (decide (0 < q3)))
      have g0 := hR.cell 0
      have g1 := hR.cell 1
      have g2 := hR.cell 2
      simp at g0 g1 g2
      exact bodyPost_ret (v := fval ⟨q1, joinS vs, decide (0 < q3)⟩) (by simp [results, Tryz.results47, go_sem, g0, g1, g2]) rfl ⟨by rw [HY.out], ((hw3.setCell (Nat.le_refl _) _).setCell (Nat.le_refl _) _).setCell (Nat.le_refl _) _⟩
set_option maxRecDepth 100000 in
set_option maxHeartbeats 2000000 in
theorem says_any (name : Bytes) (l : List F) (v : Value) (G : Nat) (w : World) (hG : One w G 26 v) (h : Fs w.heap.size w v l) (hl : fsum l ≤ 1099511627776) (hn : name.length ≤ 1099511627776) :
    Calls Tryz.prog 95 #[S name, .pointer (some ⟨G, 0, none⟩)] w fun e w' => e = .returned (fval (saysF name l)) ∧ Below w.heap.size w w' := by
  have HS := ssum_all l name
  have HY : Hid (saysF name l = ⟨low name, joinS (allOf l name), decide (0 < (values l name).length)⟩) := rfl
  have hZ := Blk.new w 89 (fcl ⟨[], [], false⟩)
  have hal : Below w.heap.size w (w.alloc (.cells (fcl ⟨[], [], false⟩) 89)) := (Below.refl _ _).alloc (Nat.le_refl _) _
  have h1 := ((h.below hal).mono hal.size)
  have hG1 := hG.alloc (.cells (fcl ⟨[], [], false⟩) 89)
  have hGlt := hG.lt
  have cG := hG1.cell
  have hgz : G < w.heap.size + 1 := by omega
  have hne : ¬ G = w.heap.size := by omega
  have hne' : ¬ w.heap.size = G := by omega
  clear hG h
  generalize hlow : low name = q1 at *
  have Hq1 := Lib.hid hlow
  clear hlow
  go_enter Tryz.func95, Tryz.ntmps95
  go_wp2_with fail
  go_region_held3 (fun w' => w'.cell? ⟨G, 0, none⟩ = some v)
    (first | go_keep)
    (first
      | (go_at_call 93; refine (Lower_any _ _ (by unfold maxLen; omega)).mono ?_; rintro e w1 ⟨rfl, hb1⟩; rw [Hq1.out]; replace hb1 := Bl.undrew hb1; have hl1 := (h1.below hb1).mono hb1.size; have hZ1 := hZ.on hb1; have g1 := (hG1.below hb1 hG1.lt); have hw1 := Bl.tr hal hb1; clear h1 hZ hG1 cG hb1 hal; have cG := g1.cell)
      | (go_at_call 82; refine (All_any l name v _ hl1 hl hn).mono ?_; rintro e w2 ⟨vv, rfl, hvv, hb2⟩; have hl2 := (hl1.below hb2).mono hb2.size; have hZ2 := hZ1.on hb2; have g2 := (g1.below hb2 g1.lt); have hw2 := Bl.tr hw1 hb2; have hr2 := Ss.own hvv; clear hl1 hZ1 g1 cG hb2 hw1 hvv; have cG := g2.cell)
      | (go_at_call 96; refine (Joins_any (allOf l name) _ _ hr2 (by omega)).mono ?_; rintro e w3 ⟨rfl, hb3⟩; have hl3 := (hl2.below hb3).mono hb3.size; have hZ3 := hZ2.on hb3; have g3 := (g2.below hb3 g2.lt); have hw3 := Bl.tr hw2 hb3; clear hl2 hZ2 g2 cG hb3 hw2 hr2; have cG := g3.cell)
      | (go_at_call 55; refine (Values_any l name v _ hl3 hl hn).mono ?_; rintro e w4 ⟨vx, rfl, hvx, hb4⟩; have hZ4 := hZ3.on hb4; have g4 := (g3.below hb4 g3.lt); have hw4 := Bl.tr hw3 hb4; obtain ⟨px, cx, rfl, hmx⟩ := (Ss.own hvx).form; clear hl3 hZ3 g3 cG hb4 hw3 hvx; have cG := g4.cell; have z0 : w4.cell? ⟨w.heap.size, 0, none⟩ = some (S []) := hZ4.cell 0; have z1 : w4.cell? ⟨w.heap.size, 1, none⟩ = some (S []) := hZ4.cell 1; have z2 : w4.cell? ⟨w.heap.size, 2, none⟩ = some (.bool false) := hZ4.cell 2; have zf := hZ4.free))
  have hR := ((hZ4.set 0 (S q1)).set 1 (S (joinS (allOf l name)))).set 2 (.bool (decide (0 < (values l name).length)))
  have r0 := hR.cell 0
  have r1 := hR.cell 1
  have r2 := hR.cell 2
  simp at r0 r1 r2
  go_wp2
  exact bodyPost_ret (v := fval ⟨q1, joinS (allOf l name), decide (0 < (values l name).length)⟩) (by simp [results, Tryz.results95, go_sem, r0, r1, r2]) rfl ⟨by rw [HY.out], ((hw4.setCell (Nat.le_refl _) _).setCell (Nat.le_refl _) _).setCell (Nat.le_refl _) _⟩

end Go.Proofs.YtahapblgmehngaaGreatDoor

namespace Go.Proofs.YtahapblgmehngaaGreatDoor
open Go.RowKit Go.Dr

/-- What fields say of names. -/
def pickP (ns : List Bytes) (l : List F) : List F := ns.map fun n => saysF n l
theorem pickP_snoc (ns : List Bytes) (l : List F) (k : Nat) (h : k < ns.length) : pickP (ns.take (k + 1)) l = pickP (ns.take k) l ++ [saysF ns[k] l] := by
  rw [take_snoc ns k h, pickP, List.map_append]
  rfl
theorem pickP_length (ns : List Bytes) (l : List F) : (pickP ns l).length = ns.length := by simp [pickP]

set_option maxRecDepth 100000 in
set_option maxHeartbeats 2000000 in
theorem Pick_any (ns : List Bytes) (l : List F) (vn vl : Value) (w : World) (hn : Ss w.heap.size w vn ns) (h : Fs w.heap.size w vl l) (hl : fsum l ≤ 1099511627776) (hs : ssum ns ≤ 1099511627776) :
    Calls Tryz.prog 51 #[vn, vl] w (RetFs 89 w (pickP ns l)) := by
  obtain ⟨pn, cn, rfl, hmn⟩ := hn.form
  obtain ⟨pa, ca, rfl, hm⟩ := h.form
  have hnl := ssum_length ns
  have hmf : ∀ (fn : Fn) (first cap : Array Value) (w : World), (Instr.makeFunc fn first cap).run Tryz.prog w = .ok (.func fn first cap) w := fun _ _ _ _ => rfl
  have hG := Dr.One.new w 26 (.slice pa l.length ca)
  have hal : Below w.heap.size w (w.alloc (.cells #[.slice pa l.length ca] 26)) := (Below.refl _ _).alloc (Nat.le_refl _) _
  go_enter Tryz.func51, Tryz.ntmps51
  go_wp2
  go_loopw [6, 12] (fun v' i wr => ∃ k : Nat, i = .int .i64 k ∧ k ≤ ns.length ∧ wr.ownsRow (w.heap.size + 1) 89 3 v' (pickP (ns.take k) l).length (fcells (pickP (ns.take k) l)) ∧ Dr.One wr w.heap.size 26 (.slice pa l.length ca) ∧ Below w.heap.size w wr) (fun _ i _ => ns.length - (intOf i).toNat)
  case atStart => exact ⟨0, rfl, Nat.zero_le _, World.ownsRow_nil _ _ _ _, hG, hal⟩
  case round =>
    obtain ⟨k, rfl, hk, hown, hGr, hbel⟩ := hrel
    by_cases hlt : k < ns.length
    · obtain ⟨b, off, rfl, hbb, c0⟩ := (hn.below hbel).at k hlt
      have hf := ssum_mem (List.getElem_mem hlt)
      have HV := Lib.hid (pickP_snoc ns l k hlt)
      have hvl := pickP_length (ns.take k) l
      rw [List.length_take] at hvl
      have hvl2 : (pickP (ns.take k) l).length ≤ k := by omega
      clear hvl
      have hlr := (h.below hbel).mono hbel.size
      have hGlt := hGr.lt
      generalize pickP (ns.take k) l = out at *
      go_wp2_with (first | (at_builtin; refine wpList_appF rfl _ _ 34 rfl (w.heap.size + 1) Tryz.underlying34 (by kernel_rfl) _ _ _ rfl (own_below hown hb1) rfl (by omega) (by have := hb1.size; have := hbel.size; omega) rfl ?_; intro a' c' w2 hown2 hb2 hz2) | (go_at_call 95; refine (says_any ns[k] l _ w.heap.size _ hGr hlr hl (by omega)).mono ?_; rintro e w1 ⟨rfl, hb1⟩))
      go_roundw
      case rel => exact ⟨k + 1, by go_num, by omega, by rw [HV.out, fcells_append, List.length_append]; exact hown2, (hGr.below hb1 hGlt).below hb2 (by omega), (hbel.trans (hb1.mono hbel.size)).trans (hb2.mono (by omega))⟩
      case measure => simp [intOf]; omega
    · have hk' : k = ns.length := by omega
      subst hk'
      rw [List.take_length] at *
      go_wp2
      go_ret
      exact ⟨_, rfl, own_base hown (by omega), hbel⟩

set_option maxRecDepth 100000 in
set_option maxHeartbeats 2000000 in
theorem refPick_any (ns : List Bytes) (l : List F) (vn v : Value) (w : World) (hn : Ss w.heap.size w vn ns) (h : Fs w.heap.size w v l) (hl : fsum l ≤ 1099511627776) (hs : ssum ns ≤ 1099511627776) :
    Calls Tryz.prog 18 #[vn, v] w (RetFs 89 w (pickP ns l)) := by
  obtain ⟨pn, cn, rfl, hmn⟩ := hn.form
  have hnl := ssum_length ns
  go_enter Tryz.func18, Tryz.ntmps18
  go_wp2
  go_loopw [5, 6] (fun v' i wr => ∃ k : Nat, i = .int .i64 k ∧ k ≤ ns.length ∧ wr.ownsRow w.heap.size 89 3 v' (pickP (ns.take k) l).length (fcells (pickP (ns.take k) l)) ∧ Below w.heap.size w wr) (fun _ i _ => ns.length - (intOf i).toNat)
  case atStart => exact ⟨0, rfl, Nat.zero_le _, World.ownsRow_nil _ _ _ _, Below.refl _ _⟩
  case round =>
    obtain ⟨k, rfl, hk, hown, hbel⟩ := hrel
    by_cases hlt : k < ns.length
    · obtain ⟨b, off, rfl, hbb, c0⟩ := (hn.below hbel).at k hlt
      have hf := ssum_mem (List.getElem_mem hlt)
      have HV := Lib.hid (pickP_snoc ns l k hlt)
      have hvl := pickP_length (ns.take k) l
      rw [List.length_take] at hvl
      have hvl2 : (pickP (ns.take k) l).length ≤ k := by omega
      clear hvl
      have hlr := (h.below hbel).mono hbel.size
      generalize pickP (ns.take k) l = out at *
      go_wp2_with (first | (at_builtin; refine wpList_appF rfl _ _ 34 rfl w.heap.size Tryz.underlying34 (by kernel_rfl) _ _ _ rfl (own_below hown hb1) rfl (by omega) (by have := hb1.size; have := hbel.size; omega) rfl ?_; intro a' c' w2 hown2 hb2 hz2) | (go_at_call 47; refine (refSays_any ns[k] l v _ hlr hl (by omega)).mono ?_; rintro e w1 ⟨rfl, hb1⟩))
      go_roundw
      case rel => exact ⟨k + 1, by go_num, by omega, by rw [HV.out, fcells_append, List.length_append]; exact hown2, (hbel.trans (hb1.mono hbel.size)).trans hb2⟩
      case measure => simp [intOf]; omega
    · have hk' : k = ns.length := by omega
      subst hk'
      rw [List.take_length] at *
      go_wp2
      go_ret
      exact ⟨_, rfl, hown, hbel⟩

theorem pickP_one (n : Bytes) (l : List F) : pickP [n] l = [saysF n l] := rfl
theorem ssum_one (n : Bytes) : ssum [n] = n.length + 1 := by simp [ssum]

/-- Do fields say of each name what was picked? -/
def saysOk (l : List F) (p : F) : Bool := (saysF p.n l).v == p.v && (saysF p.n l).m == p.m
def matchP (ps l : List F) : Bool := ps.all (saysOk l)
theorem all_take_succ' (f : F → Bool) (ps : List F) (k : Nat) (h : k < ps.length) (ha : (ps.take k).all f = true) (hk : f ps[k] = true) : (ps.take (k + 1)).all f = true := by
  rw [take_snoc ps k h, List.all_append, ha]; simp [hk]
theorem all_miss' (f : F → Bool) (ps : List F) (k : Nat) (h : k < ps.length) (hk : f ps[k] = false) : ps.all f = false := by
  rw [List.all_eq_false]
  exact ⟨ps[k], List.getElem_mem h, by simp [hk]⟩

set_option maxRecDepth 100000 in
set_option maxHeartbeats 4000000 in
theorem Match_any (ps l : List F) (vp v : Value) (w : World) (hp : Fs w.heap.size w vp ps) (h : Fs w.heap.size w v l) (hl : fsum l ≤ 1099511627776) (hs : ∀ p ∈ ps, p.n.length ≤ 549755813888) :
    Calls Tryz.prog 63 #[vp, v] w fun e w' => e = .returned (.bool (matchP ps l)) ∧ Below w.heap.size w w' := by
  obtain ⟨pa, ca, rfl, hm⟩ := hp.form
  have HN := Lib.hid hs
  clear hs
  go_enter Tryz.func63, Tryz.ntmps63
  go_wp2
  go_loopw [10] (fun i wr => ∃ k : Nat, i = .int .i64 k ∧ k ≤ ps.length ∧ Hid ((ps.take k).all (saysOk l) = true) ∧ Below w.heap.size w wr) (fun i _ => ps.length - (intOf i).toNat)
  case atStart => exact ⟨0, rfl, Nat.zero_le _, rfl, Below.refl _ _⟩
  case round =>
    obtain ⟨k, rfl, hk, HA, hbel⟩ := hrel
    by_cases hlt : k < ps.length
    · obtain ⟨b, off, rfl, hbb, c0, c1, c2⟩ := (hp.below hbel).at k hlt
      have hnk := HN.out ps[k] (List.getElem_mem hlt)
      have HK := Lib.hid (all_take_succ' (saysOk l) ps k hlt HA.out)
      have HF := Lib.hid (all_miss' (saysOk l) ps k hlt)
      have HS : Hid (saysOk l ps[k] = ((saysF ps[k].n l).v == ps[k].v && (saysF ps[k].n l).m == ps[k].m)) := rfl
      have hlr := (h.below hbel).mono hbel.size
      have hZ := Blk.new wr 89 (fcl ps[k])
      have hal : Below wr.heap.size wr (wr.alloc (.cells (fcl ps[k]) 89)) := (Below.refl _ _).alloc (Nat.le_refl _) _
      have hl1 := (hlr.below hal).mono hal.size
      have hZ2 := hZ.alloc (.cells #[S ps[k].n] 9)
      have hal2 : Below (wr.alloc (.cells (fcl ps[k]) 89)).heap.size (wr.alloc (.cells (fcl ps[k]) 89)) ((wr.alloc (.cells (fcl ps[k]) 89)).alloc (.cells #[S ps[k].n] 9)) := (Below.refl _ _).alloc (Nat.le_refl _) _
      have hl2 := (hl1.below hal2).mono hal2.size
      have hln : Ss ((wr.alloc (.cells (fcl ps[k]) 89)).alloc (.cells #[S ps[k].n] 9)).heap.size ((wr.alloc (.cells (fcl ps[k]) 89)).alloc (.cells #[S ps[k].n] 9)) (.slice (some ⟨wr.heap.size + 1, 0, none⟩) 1 1) [ps[k].n] :=
        (Rd.lit_at (wr.alloc (.cells (fcl ps[k]) 89)) (wr.heap.size + 1) (by simp) 9 #[S ps[k].n] 1 1 rfl (by decide)).mono (by simp)
      have hw2 := Bl.tr hal hal2
      clear hlr hZ hal hl1 hal2
      go_wp2_with fail
      refine (Pick_any [ps[k].n] l _ v _ hln hl2 hl (by rw [ssum_one]; omega)).mono ?_
      rintro e w1 ⟨vq, rfl, hvq, hb1⟩
      rw [pickP_one] at hvq
      have hq : Fs w1.heap.size w1 vq [saysF ps[k].n l] := Fs.own hvq
      have hZ1 := hZ2.on hb1
      have hw1 := Bl.tr hw2 hb1
      have hr1 := hbel.trans (hw1.mono hbel.size)
      have zl := hZ1.lt
      clear hZ2 hw2 hb1 hvq hln hl2
      generalize saysF ps[k].n l = q at *
      obtain ⟨pq, cq, rfl, hmq⟩ := hq.form
      obtain ⟨bq, oq, rfl, hbq, d0, d1, d2⟩ := hq.at 0 (by simp)
      simp at d0 d1 d2
      have z1 := hZ1.cell 1
      have z2 := hZ1.cell 2
      simp at z1 z2
      by_cases e1 : q.v = ps[k].v
      · have g1 : (!q.v == ps[k].v) = false := by simp [e1]
        by_cases e2 : q.m = ps[k].m
        · have g2 : (q.m != ps[k].m) = false := by simp [e2]
          have g3 : (!q.m == ps[k].m) = false := by simp [e2]
          have HY := Lib.hid (HK.out (by rw [HS.out]; simp [e1, e2]))
          clear e1 e2
          go_wp2
          go_roundw
          case rel => exact ⟨k + 1, by go_num, by omega, HY, hr1.alloc (by have := hr1.size; omega) _⟩
          case measure => simp [intOf]; omega
        · have g2 : (q.m != ps[k].m) = true := by simpa using e2
          have g3 : (!q.m == ps[k].m) = true := by simpa using e2
          have HY := Lib.hid (HF.out (by rw [HS.out]; simp [e2]))
          clear e1 e2
          go_wp2
          go_ret
          exact ⟨ret_bool (by rw [matchP, HY.out]), hr1.alloc (by have := hr1.size; omega) _⟩
      · have g1 : (!q.v == ps[k].v) = true := by simpa using e1
        have HY := Lib.hid (HF.out (by rw [HS.out]; simp [e1]))
        clear e1
        go_wp2
        go_ret
        exact ⟨ret_bool (by rw [matchP, HY.out]), hr1.alloc (by have := hr1.size; omega) _⟩
    · have hk' : k = ps.length := by omega
      subst hk'
      go_wp2
      go_ret
      exact ⟨ret_bool (by have := HA.out; rw [List.take_length] at this; rw [matchP, this]), hbel⟩

end Go.Proofs.YtahapblgmehngaaGreatDoor

