
/- The walks of layer 17 and of its reference, second part: what is picked, and whether it is said still. -/
import Derived.Test.YtnflihjgbkocnaaDoorVar1
namespace Go.Proofs.YtnflihjgbkocnaaDoor
open Go.RowKit Go.Dr

/-- What fields say of names. -/
def pickP (ns : List Bytes) (l : List F) : List F := ns.map fun n => saysF n l
theorem pickP_snoc (ns : List Bytes) (l : List F) (k : Nat) (h : k < ns.length) : pickP (ns.take (k + 1)) l = pickP (ns.take k) l ++ [saysF ns[k] l] := by
  rw [take_snoc ns k h, pickP, List.map_append]
  rfl
theorem pickP_length (ns : List Bytes) (l : List F) : (pickP ns l).length = ns.length := by simp [pickP]

set_option maxRecDepth 100000 in
set_option maxHeartbeats 2000000 in
theorem Pick_any (ns : List Bytes) (l : List F) (vn vl : Value) (w : World) (hn : Ss w.heap.size w vn ns) (h : Fs w.heap.size w vl l) (hl : fsum l ≤ 1099511627776) (hs : ssum ns ≤ 1099511627776) :
    Calls Tryd.prog 42 #[vn, vl] w (RetFs 53 w (pickP ns l)) := by
  obtain ⟨pn, cn, rfl, hmn⟩ := hn.form
  obtain ⟨pa, ca, rfl, hm⟩ := h.form
  have hnl := ssum_length ns
  have hmf : ∀ (fn : Fn) (first cap : Array Value) (w : World), (Instr.makeFunc fn first cap).run Tryd.prog w = .ok (.func fn first cap) w := fun _ _ _ _ => rfl
  have hG := Dr.One.new w 34 (.slice pa l.length ca)
  have hal : Below w.heap.size w (w.alloc (.cells #[.slice pa l.length ca] 34)) := (Below.refl _ _).alloc (Nat.le_refl _) _
  go_enter Tryd.func42, Tryd.ntmps42
  go_wp2
  go_loopw [6, 12] (fun v' i wr => ∃ k : Nat, i = .int .i64 k ∧ k ≤ ns.length ∧ wr.ownsRow (w.heap.size + 1) 53 3 v' (pickP (ns.take k) l).length (fcells (pickP (ns.take k) l)) ∧ Dr.One wr w.heap.size 34 (.slice pa l.length ca) ∧ Below w.heap.size w wr) (fun _ i _ => ns.length - (intOf i).toNat)
  case atStart => exact ⟨0, rfl, Nat.zero_le _, World.ownsRow_nil _ _ _ _, hG, hal⟩
  case round =>
    obtain ⟨k, rfl, hk, hown, hGr, hbel⟩ := hrel
    by_cases hlt : k < ns.length
    · obtain ⟨b, off, rfl, hbb, c0⟩ := (hn.below hbel).at k hlt
      have hf := ssum_mem (List.getElem_mem hlt)
      have HV := Lib.hid (pickP_snoc ns l k hlt)
      have hvl := pickP_length (ns.take k) l
      rw [List.length_take] at hvl
      have hvl2 : (pickP (ns.take k) l).length ≤ k := by omega
      clear hvl
      have hlr := (h.below hbel).mono hbel.size
      have hGlt := hGr.lt
      generalize pickP (ns.take k) l = out at *
      go_wp2_with (first | (at_builtin; refine wpList_appF rfl _ _ 33 rfl (w.heap.size + 1) Tryd.underlying33 (by kernel_rfl) _ _ _ rfl (own_below hown hb1) rfl (by omega) (by have := hb1.size; have := hbel.size; omega) rfl ?_; intro a' c' w2 hown2 hb2 hz2) | (go_at_call 47; refine (says_any ns[k] l _ w.heap.size _ hGr hlr hl (by omega)).mono ?_; rintro e w1 ⟨rfl, hb1⟩))
      go_roundw
      case rel => exact ⟨k + 1, by go_num, by omega, by rw [HV.out, fcells_append, List.length_append]; exact hown2, (hGr.below hb1 hGlt).below hb2 (by omega), (hbel.trans (hb1.mono hbel.size)).trans (hb2.mono (by omega))⟩
      case measure => simp [intOf]; omega
    · have hk' : k = ns.length := by omega
      subst hk'
      rw [List.take_length] at *
      go_wp2
      go_ret
      exact ⟨_, rfl, own_base hown (by omega), hbel⟩

theorem pickP_one (n : Bytes) (l : List F) : pickP [n] l = [saysF n l] := rfl
theorem ssum_one (n : Bytes) : ssum [n] = n.length + 1 := by simp [ssum]

/-- Do fields say of each name what was picked? -/
def saysOk (l : List F) (p : F) : Bool := (saysF p.n l).v == p.v && (saysF p.n l).m == p.m
def matchP (ps l : List F) : Bool := ps.all (saysOk l)
theorem all_take_succ' (f : F → Bool) (ps : List F) (k : Nat) (h : k < ps.length) (ha : (ps.take k).all f = true) (hk : f ps[k] = true) : (ps.take (k + 1)).all f = true := by
  rw [take_snoc ps k h, List.all_append, ha]; simp [hk]
theorem all_miss' (f : F → Bool) (ps : List F) (k : Nat) (h : k < ps.length) (hk : f ps[k] = false) : ps.all f = false := by
  rw [List.all_eq_false]
  exact ⟨ps[k], List.getElem_mem h, by simp [hk]⟩

set_option maxRecDepth 100000 in
set_option maxHeartbeats 4000000 in
theorem Match_any (ps l : List F) (vp v : Value) (w : World) (hp : Fs w.heap.size w vp ps) (h : Fs w.heap.size w v l) (hl : fsum l ≤ 1099511627776) (hs : ∀ p ∈ ps, p.n.length ≤ 549755813888) :
    Calls Tryd.prog 29 #[vp, v] w fun e w' => e = .returned (.bool (matchP ps l)) ∧ Below w.heap.size w w' := by
  obtain ⟨pa, ca, rfl, hm⟩ := hp.form
  have HN := Lib.hid hs
  clear hs
  go_enter Tryd.func29, Tryd.ntmps29
  go_wp2
  go_loopw [10] (fun i wr => ∃ k : Nat, i = .int .i64 k ∧ k ≤ ps.length ∧ Hid ((ps.take k).all (saysOk l) = true) ∧ Below w.heap.size w wr) (fun i _ => ps.length - (intOf i).toNat)
  case atStart => exact ⟨0, rfl, Nat.zero_le _, rfl, Below.refl _ _⟩
  case round =>
    obtain ⟨k, rfl, hk, HA, hbel⟩ := hrel
    by_cases hlt : k < ps.length
    · obtain ⟨b, off, rfl, hbb, c0, c1, c2⟩ := (hp.below hbel).at k hlt
      have hnk := HN.out ps[k] (List.getElem_mem hlt)
      have HK := Lib.hid (all_take_succ' (saysOk l) ps k hlt HA.out)
      have HF := Lib.hid (all_miss' (saysOk l) ps k hlt)
      have HS : Hid (saysOk l ps[k] = ((saysF ps[k].n l).v == ps[k].v && (saysF ps[k].n l).m == ps[k].m)) := rfl
      have hlr := (h.below hbel).mono hbel.size
      have hZ := Blk.new wr 53 (fcl ps[k])
      have hal : Below wr.heap.size wr (wr.alloc (.cells (fcl ps[k]) 53)) := (Below.refl _ _).alloc (Nat.le_refl _) _
      have hl1 := (hlr.below hal).mono hal.size
      have hZ2 := hZ.alloc (.cells #[S ps[k].n] 9)
      have hal2 : Below (wr.alloc (.cells (fcl ps[k]) 53)).heap.size (wr.alloc (.cells (fcl ps[k]) 53)) ((wr.alloc (.cells (fcl ps[k]) 53)).alloc (.cells #[S ps[k].n] 9)) := (Below.refl _ _).alloc (Nat.le_refl _) _
      have hl2 := (hl1.below hal2).mono hal2.size
      have hln : Ss ((wr.alloc (.cells (fcl ps[k]) 53)).alloc (.cells #[S ps[k].n] 9)).heap.size ((wr.alloc (.cells (fcl ps[k]) 53)).alloc (.cells #[S ps[k].n] 9)) (.slice (some ⟨wr.heap.size + 1, 0, none⟩) 1 1) [ps[k].n] :=
        (Rd.lit_at (wr.alloc (.cells (fcl ps[k]) 53)) (wr.heap.size + 1) (by simp) 9 #[S ps[k].n] 1 1 rfl (by decide)).mono (by simp)
      have hw2 := Bl.tr hal hal2
      clear hlr hZ hal hl1 hal2
      go_wp2_with fail
      refine (Pick_any [ps[k].n] l _ v _ hln hl2 hl (by rw [ssum_one]; omega)).mono ?_
      rintro e w1 ⟨vq, rfl, hvq, hb1⟩
      rw [pickP_one] at hvq
      have hq : Fs w1.heap.size w1 vq [saysF ps[k].n l] := Fs.own hvq
      have hZ1 := hZ2.on hb1
      have hw1 := Bl.tr hw2 hb1
      have hr1 := hbel.trans (hw1.mono hbel.size)
      have zl := hZ1.lt
      clear hZ2 hw2 hb1 hvq hln hl2
      generalize saysF ps[k].n l = q at *
      obtain ⟨pq, cq, rfl, hmq⟩ := hq.form
      obtain ⟨bq, oq, rfl, hbq, d0, d1, d2⟩ := hq.at 0 (by simp)
      simp at d0 d1 d2
      have z1 := hZ1.cell 1
      have z2 := hZ1.cell 2
      simp at z1 z2
      by_cases e1 : q.v = ps[k].v
      · have g1 : (!q.v == ps[k].v) = false := by simp [e1]
        by_cases e2 : q.m = ps[k].m
        · have g2 : (q.m != ps[k].m) = false := by simp [e2]
          have g3 : (!q.m == ps[k].m) = false := by simp [e2]
          have HY := Lib.hid (HK.out (by rw [HS.out]; simp [e1, e2]))
          clear e1 e2
          go_wp2
          go_roundw
          case rel => exact ⟨k + 1, by go_num, by omega, HY, hr1.alloc (by have := hr1.size; omega) _⟩
          case measure => simp [intOf]; omega
        · have g2 : (q.m != ps[k].m) = true := by simpa using e2
          have g3 : (!q.m == ps[k].m) = true := by simpa using e2
          have HY := Lib.hid (HF.out (by rw [HS.out]; simp [e2]))
          clear e1 e2
          go_wp2
          go_ret
          exact ⟨ret_bool (by rw [matchP, HY.out]), hr1.alloc (by have := hr1.size; omega) _⟩
      · have g1 : (!q.v == ps[k].v) = true := by simpa using e1
        have HY := Lib.hid (HF.out (by rw [HS.out]; simp [e1]))
        clear e1
        go_wp2
        go_ret
        exact ⟨ret_bool (by rw [matchP, HY.out]), hr1.alloc (by have := hr1.size; omega) _⟩
    · have hk' : k = ps.length := by omega
      subst hk'
      go_wp2
      go_ret
      exact ⟨ret_bool (by have := HA.out; rw [List.take_length] at this; rw [matchP, this]), hbel⟩

set_option maxRecDepth 100000 in
set_option maxHeartbeats 4000000 in
theorem refMatch_any (ps l : List F) (vp v : Value) (w : World) (hp : Fs w.heap.size w vp ps) (h : Fs w.heap.size w v l) (hl : fsum l ≤ 1099511627776) (hs : ∀ p ∈ ps, p.n.length ≤ 549755813888) :
    Calls Tryd.prog 33 #[vp, v] w fun e w' => e = .returned (.bool (matchP ps l)) ∧ Below w.heap.size w w' := by
  obtain ⟨pa, ca, rfl, hm⟩ := hp.form
  have HN := Lib.hid hs
  clear hs
  go_enter Tryd.func33, Tryd.ntmps33
  go_wp2
  go_loopw [5] (fun i wr => ∃ k : Nat, i = .int .i64 k ∧ k ≤ ps.length ∧ Hid ((ps.take k).all (saysOk l) = true) ∧ Below w.heap.size w wr) (fun i _ => ps.length - (intOf i).toNat)
  case atStart => exact ⟨0, rfl, Nat.zero_le _, rfl, Below.refl _ _⟩
  case round =>
    obtain ⟨k, rfl, hk, HA, hbel⟩ := hrel
    by_cases hlt : k < ps.length
    · obtain ⟨b, off, rfl, hbb, c0, c1, c2⟩ := (hp.below hbel).at k hlt
      have hnk := HN.out ps[k] (List.getElem_mem hlt)
      have HK := Lib.hid (all_take_succ' (saysOk l) ps k hlt HA.out)
      have HF := Lib.hid (all_miss' (saysOk l) ps k hlt)
      have HS : Hid (saysOk l ps[k] = ((saysF ps[k].n l).v == ps[k].v && (saysF ps[k].n l).m == ps[k].m)) := rfl
      have hlr := (h.below hbel).mono hbel.size
      have hbw : b < wr.heap.size := Nat.lt_of_lt_of_le hbb hbel.size
      go_wp2_with fail
      refine (refSays_any ps[k].n l v wr hlr hl (by omega)).mono ?_
      rintro e w1 ⟨rfl, hb1⟩
      have d1 := (hb1.cell (p := ⟨b, off + k * 3 + 1, none⟩) hbw).trans c1
      have d2 := (hb1.cell (p := ⟨b, off + k * 3 + 2, none⟩) hbw).trans c2
      have hbw1 : b < w1.heap.size := by have := hb1.size; omega
      have hbn : ¬ b = w1.heap.size := by omega
      have hr1 := hbel.trans (hb1.mono hbel.size)
      generalize saysF ps[k].n l = q at *
      clear c0 c1 c2 hb1
      have i0 : (0 : Int) ≤ (k : Int) := by omega
      have i1 : (k : Int) < (ps.length : Int) := by omega
      by_cases e1 : q.v = ps[k].v
      · have g1 : (!q.v == ps[k].v) = false := by simp [e1]
        by_cases e2 : q.m = ps[k].m
        · have g2 : (q.m != ps[k].m) = false := by simp [e2]
          have g3 : (!q.m == ps[k].m) = false := by simp [e2]
          have HY := Lib.hid (HK.out (by rw [HS.out]; simp [e1, e2]))
          clear e1 e2
          go_wp2_with fail
          go_quiet (fail)
          go_wp2
          go_roundw
          case rel => exact ⟨k + 1, by go_num, by omega, HY, below_drewN (hr1.alloc (by have := hr1.size; omega) _) _⟩
          case measure => simp [intOf]; omega
        · have g2 : (q.m != ps[k].m) = true := by simpa using e2
          have g3 : (!q.m == ps[k].m) = true := by simpa using e2
          have HY := Lib.hid (HF.out (by rw [HS.out]; simp [e2]))
          clear e1 e2
          go_wp2_with fail
          go_quiet (fail)
          go_wp2
          go_ret
          exact ⟨ret_bool (by rw [matchP, HY.out]), below_drewN (hr1.alloc (by have := hr1.size; omega) _) _⟩
      · have g1 : (!q.v == ps[k].v) = true := by simpa using e1
        have HY := Lib.hid (HF.out (by rw [HS.out]; simp [e1]))
        clear e1
        go_wp2_with fail
        go_quiet (fail)
        go_wp2
        go_ret
        exact ⟨ret_bool (by rw [matchP, HY.out]), below_drewN (hr1.alloc (by have := hr1.size; omega) _) _⟩
    · have hk' : k = ps.length := by omega
      subst hk'
      go_wp2
      go_ret
      exact ⟨ret_bool (by have := HA.out; rw [List.take_length] at this; rw [matchP, this]), hbel⟩
end Go.Proofs.YtnflihjgbkocnaaDoor
