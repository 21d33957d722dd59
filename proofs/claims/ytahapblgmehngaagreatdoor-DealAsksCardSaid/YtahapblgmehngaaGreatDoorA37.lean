/- Parts of the proof of DealAsks_holds: the texts Shq7 Join Var1 Var2. -/
import Derived.Deep.DrawnRows
import Derived.Deep.RegionHeld3
import Derived.Test.YtahapblgmehngaaGreatDoorA33
import Derived.Test.YtahapblgmehngaaGreatDoorA13
import Derived.Test.YtahapblgmehngaaGreatDoorA1
import Derived.Test.YtahapblgmehngaaGreatDoorA16
set_option linter.unusedSimpArgs false
set_option linter.unusedVariables false
set_option linter.unnecessarySimpa false
namespace Go.Proofs.YtahapblgmehngaaGreatDoor
open Go.RowKit Go.Dr

theorem touch_any (fb rb s R m : Nat) (most last : Int) (a b : List Nd) (n : Nd) (w : World) (h : Sh fb rb w s R m most last (a ++ n :: b)) :
    ∃ w1 w2, (Calls Tryz.prog 64 #[Ptr n.b] w fun e w' => e = .returned (.tuple #[]) ∧ w' = w1) ∧ (Calls Tryz.prog 65 #[Ptr s, Ptr n.b] w1 fun e w' => e = .returned (.tuple #[]) ∧ w' = w2) ∧ Sh fb rb w2 s R m most last (a ++ b ++ [n]) ∧ But (Foot s R m (a ++ n :: b)) w w2 := by
  have hne := h.ne_s
  have hat := h.at
  obtain ⟨p, ep⟩ : ∃ p, p = lastOr (a.map Nd.n) R := ⟨_, rfl⟩
  obtain ⟨q, eq⟩ : ∃ q, q = headOr (b.map Nd.n) R := ⟨_, rfl⟩
  have hmem : ∀ n' ∈ a ++ b, n' ∈ a ++ n :: b := fun n' hn' => mem_more hn'
  have hpm : p = R ∨ ∃ n' ∈ a ++ b, n'.b = p := by
    rcases last_of a R with e | ⟨n', hn, e⟩
    · exact .inl (ep.trans e)
    · exact .inr ⟨n', by simp [hn], e.trans ep.symm⟩
  have hqm : q = R ∨ ∃ n' ∈ a ++ b, n'.b = q := by
    rcases head_of b R with e | ⟨n', hn, e⟩
    · exact .inl (eq.trans e)
    · exact .inr ⟨n', by simp [hn], e.trans eq.symm⟩
  have hnd := h.ring.nodup
  rw [nd_blocks, List.map_append, List.map_cons] at hnd
  have hnn : n.b ∉ R :: (a ++ b).map Nd.b := by
    rw [List.map_append]
    simp only [List.nodup_cons, List.nodup_append, List.mem_append, List.mem_cons] at hnd ⊢
    grind
  have hnb : ∀ k, (k = R ∨ ∃ n' ∈ a ++ b, n'.b = k) → k ≠ n.b := by
    rintro k (e | ⟨n', hn', e⟩) e1
    · exact hnn (by rw [← e1, e]; simp)
    · exact hnn (by rw [← e1, ← e]; exact List.mem_cons_of_mem _ (List.mem_map_of_mem hn'))
  have hsk : ∀ k, (k = R ∨ ∃ n' ∈ a ++ b, n'.b = k) → s ≠ k := by
    rintro k (e | ⟨n', hn', e⟩)
    · rw [e]; exact hne.1
    · rw [← e]; exact fun e => (hne.2.2.2 n' (hmem n' hn')).1 e.symm
  have hmk : ∀ k, (k = R ∨ ∃ n' ∈ a ++ b, n'.b = k) → m ≠ k := by
    rintro k (e | ⟨n', hn', e⟩)
    · rw [e]; exact hne.2.2.1
    · rw [← e]; exact fun e => (hne.2.2.2 n' (hmem n' hn')).2.1 e.symm
  have hfk : ∀ k, (k = R ∨ ∃ n' ∈ a ++ b, n'.b = k) → Foot s R m (a ++ n :: b) k := by
    rintro k (e | ⟨n', hn', e⟩)
    · exact .inr (.inr (.inl e))
    · exact .inr (.inr (.inr (e ▸ List.mem_map_of_mem (hmem n' hn'))))
  have hin : ∀ {k}, (k = R ∨ ∃ n' ∈ a ++ b, n'.b = k) → (k = R ∨ ∃ n' ∈ a ++ n :: b, n'.b = k) := by
    rintro k (e | ⟨n', hn', e⟩)
    · exact .inl e
    · exact .inr ⟨n', hmem n' hn', e⟩
  obtain ⟨kp, p1, p2, hpb⟩ := ring_cell h (hin hpm)
  obtain ⟨kq, q1, q2, hqb⟩ := ring_cell h (hin hqm)
  have hout := h.ring
  rw [List.map_append, List.map_cons] at hout
  have hout := hout.out
  rw [← ep, ← eq] at hat
  rw [← ep, ← eq, ← List.map_append] at hout
  have hC := out_any n.b p q (Ptr p2) (Ptr q1) w (hat.cell 9) (hat.cell 10) (hnb p hpm) (hnb q hqm) (hpb.cell 10) (hpb.free 10) (hqb.cell 9) (hqb.free 9)
  obtain ⟨w1, ew⟩ : ∃ w1 : World, w1 = ((w.setCell ⟨p, 10, none⟩ (Ptr q)).setCell ⟨q, 9, none⟩ (Ptr p)).drew := ⟨_, rfl⟩
  rw [← ew] at hC
  have hr1 : Ring w1 97 R ((a ++ b).map Nd.n) := by rw [ew]; exact hout.block fun _ _ => rfl
  have hs1 : Blk w1 s 100 #[.int .i64 most, .int .i64 (costs ((a ++ n :: b).map Nd.x) : Nat), .int .i64 last, Ptr R, .map (some m)] := by rw [ew]; exact ((h.blk.other (p := ⟨p, 10, none⟩) (hsk p hpm) _).other (p := ⟨q, 9, none⟩) (hsk q hqm) _).drew
  have hn1 : Blk w1 n.b 97 (n.k.cells p q) := by rw [ew]; exact ((hat.other (p := ⟨p, 10, none⟩) (fun e => hnb p hpm e.symm) _).other (p := ⟨q, 9, none⟩) (fun e => hnb q hqm e.symm) _).drew
  have hk1 : ∀ k, k ≠ p → k ≠ q → w1.heap[k]? = w.heap[k]? := fun k h1 h2 => by
    rw [ew]
    exact (Below.heap_setCell _ ⟨q, 9, none⟩ _ k h2).trans (Below.heap_setCell _ ⟨p, 10, none⟩ _ k h1)
  have hb1 : But (Foot s R m (a ++ n :: b)) w w1 := by rw [ew]; exact (((But.refl _ w).setCell (p := ⟨p, 10, none⟩) (.inl (hfk p hpm)) _).setCell (p := ⟨q, 9, none⟩) (.inl (hfk q hqm)) _).drew
  obtain ⟨z, ez⟩ : ∃ z, z = lastOr ((a ++ b).map Nd.n) R := ⟨_, rfl⟩
  have hzm : z = R ∨ ∃ n' ∈ a ++ b, n'.b = z := by
    rcases last_of (a ++ b) R with e | ⟨n', hn, e⟩
    · exact .inl (ez.trans e)
    · exact .inr ⟨n', hn, e.trans ez.symm⟩
  have hzb : ∃ k z1 z2, Blk w1 z 97 (K.cells k z1 z2) := by
    rcases hzm with e | ⟨n', hn', e⟩
    · rw [e]; exact ⟨_, _, _, hr1.root⟩
    · obtain ⟨c, d, ecd⟩ := List.append_of_mem hn'
      rw [ecd, List.map_append, List.map_cons] at hr1
      rw [← e]
      exact ⟨_, _, _, hr1.at⟩
  obtain ⟨kz, z1, z2, hzb⟩ := hzb
  have hroot := hr1.root
  rw [← ez] at hroot
  have hU := used_any s n.b R z (Ptr p) (Ptr q) (Ptr z2) (.int .i64 0) w1 (hs1.cell 3) (hroot.cell 9) (hroot.free 9) (hn1.cell 9) (hn1.free 9) (hn1.cell 10) (hn1.free 10) (hzb.cell 10) (hzb.free 10) (fun e => (hne.2.2.2 n (by simp)).1 e.symm) (hnb R (.inl rfl)) (hnb z hzm) (hsk z hzm) hne.1
  have hr2 := hr1.used (n := n.n) _ hn1 (fun p' q' => by
    show ((K.cells n.k p q).setIfInBounds 9 (Ptr p')).setIfInBounds 10 (Ptr q') = K.cells n.k p' q'
    rw [K.set9, K.set10]) (by show n.b ∉ _; rw [nd_blocks]; exact hnn)
  rw [← ez] at hr2
  have hn1' : n.n.1 = n.b := rfl
  rw [hn1'] at hr2
  obtain ⟨w2, ew2⟩ : ∃ w2 : World, w2 = ((((w1.setCell ⟨n.b, 9, none⟩ (Ptr z)).setCell ⟨n.b, 10, none⟩ (Ptr R)).setCell ⟨z, 10, none⟩ (Ptr n.b)).setCell ⟨R, 9, none⟩ (Ptr n.b)).drew := ⟨_, rfl⟩
  rw [← ew2] at hU
  have hk2 : ∀ k, k ≠ n.b → k ≠ z → k ≠ R → w2.heap[k]? = w1.heap[k]? := fun k h1 h2 h3 => by
    rw [ew2]
    exact (Below.heap_setCell _ ⟨R, 9, none⟩ _ k h3).trans ((Below.heap_setCell _ ⟨z, 10, none⟩ _ k h2).trans ((Below.heap_setCell _ ⟨n.b, 10, none⟩ _ k h1).trans (Below.heap_setCell _ ⟨n.b, 9, none⟩ _ k h1)))
  have hfn : Foot s R m (a ++ n :: b) n.b := .inr (.inr (.inr (List.mem_map_of_mem (by simp))))
  have hb2 : But (Foot s R m (a ++ n :: b)) w w2 := by
    rw [ew2]
    exact ((((hb1.setCell (p := ⟨n.b, 9, none⟩) (.inl hfn) _).setCell (p := ⟨n.b, 10, none⟩) (.inl hfn) _).setCell (p := ⟨z, 10, none⟩) (.inl (hfk z hzm)) _).setCell (p := ⟨R, 9, none⟩) (.inl (.inr (.inr (.inl rfl)))) _).drew
  have hperm : (a ++ n :: b).Perm (a ++ b ++ [n]) := by
    rw [List.append_assoc]
    exact List.Perm.append_left a (List.perm_append_singleton n b).symm
  refine ⟨w1, w2, hC, hU, ?_, hb2⟩
  have hcost : costs ((a ++ b ++ [n]).map Nd.x) = costs ((a ++ n :: b).map Nd.x) := by
    unfold costs
    exact ((hperm.map Nd.x).map It.cost).symm.sum_nat
  refine ⟨?_, ?_, ?_, ?_, ?_, ?_, h.most1⟩
  · rw [hcost]
    exact hs1.block (hk2 s (fun e => (hne.2.2.2 n (by simp)).1 e.symm) (hsk z hzm) hne.1)
  · rw [List.map_append]
    rw [ew2]
    exact hr2.block fun _ _ => rfl
  · refine (h.map.block ?_).perm (hperm.map _)
    exact (hk2 m (fun e => (hne.2.2.2 n (by simp)).2.1 e.symm) (hmk z hzm) hne.2.2.1).trans (hk1 m (hmk p hpm) (hmk q hqm))
  · exact fun n' hn' => (h.rows n' (hperm.mem_iff.2 hn')).block fun g cur hg _ => hb2.block g (by rcases hg with hg | hg <;> exact (Array.getElem?_eq_some_iff.1 hg).1) (by
      rcases hg with hg | hg
      · exact h.off hg (by decide) (by decide)
      · exact h.off hg (by decide) (by decide))
  · exact fun k hk => h.base k (foot_more (fun n' hn' => hperm.mem_iff.2 hn') hk)
  · rw [hcost]; exact h.room
end Go.Proofs.YtahapblgmehngaaGreatDoor

namespace Go.Proofs.YtahapblgmehngaaGreatDoor
open Go.RowKit Go.Dr

/-- The values in one, with ', ' between. -/
def joinS (v : List Bytes) : Bytes := Lib.join v [44, 32]

theorem joinS_nil : joinS [] = [] := rfl
theorem lens_ssum (r : List Bytes) : Lib.lens r + r.length = ssum r := by
  induction r with
  | nil => rfl
  | cons y r ih => simp only [Lib.lens, List.map_cons, List.sum_cons, List.length_cons, ssum] at *; omega
theorem joinS_length (vs : List Bytes) : (joinS vs).length ≤ 2 * ssum vs := by
  cases vs with
  | nil => simp [joinS_nil]
  | cons x r =>
    have := Lib.join_length x r [44, 32]
    have h2 := lens_ssum (x :: r)
    simp only [joinS, List.length_cons, List.length_nil] at *
    omega

set_option maxRecDepth 100000 in
set_option maxHeartbeats 1000000 in
theorem Joins_any (vs : List Bytes) (v : Value) (w : World) (h : Ss w.heap.size w v vs) (hl : ssum vs ≤ 1099511627776) :
    Calls Tryz.prog 96 #[v, S [44, 32]] w fun e w' => e = .returned (S (joinS vs)) ∧ Below w.heap.size w w' := by
  have hbnd := joinS_length vs
  obtain ⟨a, cap, rfl, h2, h3, h4, h5, h6⟩ := h
  cases vs with
  | nil =>
    refine (Tryz.strings_Join_none a cap ⟨#[44, 32]⟩ w).mono ?_
    rintro e w' ⟨rfl, rfl⟩
    exact ⟨rfl, Below.refl _ _⟩
  | cons x r =>
    obtain ⟨b, off, rfl, hb, _⟩ := h6 0 (S x) rfl
    have hmap : ((x :: r).map fun l => (⟨l.toArray⟩ : ByteArray)).map (·.data.toList) = x :: r := by
      rw [List.map_map]
      conv => rhs; rw [← List.map_id (x :: r)]
      rfl
    have hlen := ssum_length (x :: r)
    have hc := Tryz.strings_Join b off cap ((x :: r).map fun l => ⟨l.toArray⟩) ⟨#[44, 32]⟩ w (fun j y hy => by
      rw [List.getElem?_map] at hy
      cases hj : (x :: r)[j]? with
      | none => rw [hj] at hy; cases hy
      | some z =>
        rw [hj] at hy
        obtain rfl := Option.some.inj hy
        obtain ⟨b', off', e1, _, e3⟩ := h6 j (S z) (by rw [List.getElem?_map, hj]; rfl)
        simp only [Option.some.injEq, Addr.mk.injEq, and_true] at e1
        obtain ⟨rfl, rfl⟩ := e1
        exact e3) hb (by rw [List.length_map]; omega) (by rw [List.length_map]; exact h2)
      (by rw [hmap]; show (joinS (x :: r)).length ≤ _; omega)
    rw [hmap, List.length_map] at hc
    exact hc

end Go.Proofs.YtahapblgmehngaaGreatDoor

namespace Go.Proofs.YtahapblgmehngaaGreatDoor
open Go.RowKit Go.Dr

/-- What fields say of a name: its small letters, its elements in one, whether it is there. -/
def saysF (name : Bytes) (l : List F) : F := ⟨low name, joinS (allOf l name), decide (0 < (values l name).length)⟩
/-- A struct of two texts and a mark, as a value; its cells. -/
abbrev fval (f : F) : Value := .agg #[S f.n, S f.v, .bool f.m]
abbrev fcl (f : F) : Array Value := #[S f.n, S f.v, .bool f.m]

set_option maxRecDepth 100000 in
set_option maxHeartbeats 2000000 in
theorem says_any (name : Bytes) (l : List F) (v : Value) (G : Nat) (w : World) (hG : One w G 26 v) (h : Fs w.heap.size w v l) (hl : fsum l ≤ 1099511627776) (hn : name.length ≤ 1099511627776) :
    Calls Tryz.prog 95 #[S name, .pointer (some ⟨G, 0, none⟩)] w fun e w' => e = .returned (fval (saysF name l)) ∧ Below w.heap.size w w' := by
  have HS := ssum_all l name
  have HY : Hid (saysF name l = ⟨low name, joinS (allOf l name), decide (0 < (values l name).length)⟩) := rfl
  have hZ := Blk.new w 89 (fcl ⟨[], [], false⟩)
  have hal : Below w.heap.size w (w.alloc (.cells (fcl ⟨[], [], false⟩) 89)) := (Below.refl _ _).alloc (Nat.le_refl _) _
  have h1 := ((h.below hal).mono hal.size)
  have hG1 := hG.alloc (.cells (fcl ⟨[], [], false⟩) 89)
  have hGlt := hG.lt
  have cG := hG1.cell
  have hgz : G < w.heap.size + 1 := by omega
  have hne : ¬ G = w.heap.size := by omega
  have hne' : ¬ w.heap.size = G := by omega
  clear hG h
  generalize hlow : low name = q1 at *
  have Hq1 := Lib.hid hlow
  clear hlow
  go_enter Tryz.func95, Tryz.ntmps95
  go_wp2_with fail
  go_region_held3 (fun w' => w'.cell? ⟨G, 0, none⟩ = some v)
    (first | go_keep)
    (first
      | (go_at_call 93; refine (Lower_any _ _ (by unfold maxLen; omega)).mono ?_; rintro e w1 ⟨rfl, hb1⟩; rw [Hq1.out]; replace hb1 := Bl.undrew hb1; have hl1 := (h1.below hb1).mono hb1.size; have hZ1 := hZ.on hb1; have g1 := (hG1.below hb1 hG1.lt); have hw1 := Bl.tr hal hb1; clear h1 hZ hG1 cG hb1 hal; have cG := g1.cell)
      | (go_at_call 82; refine (All_any l name v _ hl1 hl hn).mono ?_; rintro e w2 ⟨vv, rfl, hvv, hb2⟩; have hl2 := (hl1.below hb2).mono hb2.size; have hZ2 := hZ1.on hb2; have g2 := (g1.below hb2 g1.lt); have hw2 := Bl.tr hw1 hb2; have hr2 := Ss.own hvv; clear hl1 hZ1 g1 cG hb2 hw1 hvv; have cG := g2.cell)
      | (go_at_call 96; refine (Joins_any (allOf l name) _ _ hr2 (by omega)).mono ?_; rintro e w3 ⟨rfl, hb3⟩; have hl3 := (hl2.below hb3).mono hb3.size; have hZ3 := hZ2.on hb3; have g3 := (g2.below hb3 g2.lt); have hw3 := Bl.tr hw2 hb3; clear hl2 hZ2 g2 cG hb3 hw2 hr2; have cG := g3.cell)
      | (go_at_call 55; refine (Values_any l name v _ hl3 hl hn).mono ?_; rintro e w4 ⟨vx, rfl, hvx, hb4⟩; have hZ4 := hZ3.on hb4; have g4 := (g3.below hb4 g3.lt); have hw4 := Bl.tr hw3 hb4; obtain ⟨px, cx, rfl, hmx⟩ := (Ss.own hvx).form; clear hl3 hZ3 g3 cG hb4 hw3 hvx; have cG := g4.cell; have z0 : w4.cell? ⟨w.heap.size, 0, none⟩ = some (S []) := hZ4.cell 0; have z1 : w4.cell? ⟨w.heap.size, 1, none⟩ = some (S []) := hZ4.cell 1; have z2 : w4.cell? ⟨w.heap.size, 2, none⟩ = some (.bool false) := hZ4.cell 2; have zf := hZ4.free))
  have hR := ((hZ4.set 0 (S q1)).set 1 (S (joinS (allOf l name)))).set 2 (.bool (decide (0 < (values l name).length)))
  have r0 := hR.cell 0
  have r1 := hR.cell 1
  have r2 := hR.cell 2
  simp at r0 r1 r2
  go_wp2
  exact bodyPost_ret (v := fval ⟨q1, joinS (allOf l name), decide (0 < (values l name).length)⟩) (by simp [results, Tryz.results95, go_sem, r0, r1, r2]) rfl ⟨by rw [HY.out], ((hw4.setCell (Nat.le_refl _) _).setCell (Nat.le_refl _) _).setCell (Nat.le_refl _) _⟩

end Go.Proofs.YtahapblgmehngaaGreatDoor

namespace Go.Proofs.YtahapblgmehngaaGreatDoor
open Go.RowKit Go.Dr

/-- What fields say of names. -/
def pickP (ns : List Bytes) (l : List F) : List F := ns.map fun n => saysF n l
theorem pickP_snoc (ns : List Bytes) (l : List F) (k : Nat) (h : k < ns.length) : pickP (ns.take (k + 1)) l = pickP (ns.take k) l ++ [saysF ns[k] l] := by
  rw [take_snoc ns k h, pickP, List.map_append]
  rfl
theorem pickP_length (ns : List Bytes) (l : List F) : (pickP ns l).length = ns.length := by simp [pickP]

set_option maxRecDepth 100000 in
set_option maxHeartbeats 2000000 in
theorem Pick_any (ns : List Bytes) (l : List F) (vn vl : Value) (w : World) (hn : Ss w.heap.size w vn ns) (h : Fs w.heap.size w vl l) (hl : fsum l ≤ 1099511627776) (hs : ssum ns ≤ 1099511627776) :
    Calls Tryz.prog 51 #[vn, vl] w (RetFs 89 w (pickP ns l)) := by
  obtain ⟨pn, cn, rfl, hmn⟩ := hn.form
  obtain ⟨pa, ca, rfl, hm⟩ := h.form
  have hnl := ssum_length ns
  have hmf : ∀ (fn : Fn) (first cap : Array Value) (w : World), (Instr.makeFunc fn first cap).run Tryz.prog w = .ok (.func fn first cap) w := fun _ _ _ _ => rfl
  have hG := Dr.One.new w 26 (.slice pa l.length ca)
  have hal : Below w.heap.size w (w.alloc (.cells #[.slice pa l.length ca] 26)) := (Below.refl _ _).alloc (Nat.le_refl _) _
  go_enter Tryz.func51, Tryz.ntmps51
  go_wp2
  go_loopw [6, 12] (fun v' i wr => ∃ k : Nat, i = .int .i64 k ∧ k ≤ ns.length ∧ wr.ownsRow (w.heap.size + 1) 89 3 v' (pickP (ns.take k) l).length (fcells (pickP (ns.take k) l)) ∧ Dr.One wr w.heap.size 26 (.slice pa l.length ca) ∧ Below w.heap.size w wr) (fun _ i _ => ns.length - (intOf i).toNat)
  case atStart => exact ⟨0, rfl, Nat.zero_le _, World.ownsRow_nil _ _ _ _, hG, hal⟩
  case round =>
    obtain ⟨k, rfl, hk, hown, hGr, hbel⟩ := hrel
    by_cases hlt : k < ns.length
    · obtain ⟨b, off, rfl, hbb, c0⟩ := (hn.below hbel).at k hlt
      have hf := ssum_mem (List.getElem_mem hlt)
      have HV := Lib.hid (pickP_snoc ns l k hlt)
      have hvl := pickP_length (ns.take k) l
      rw [List.length_take] at hvl
      have hvl2 : (pickP (ns.take k) l).length ≤ k := by omega
      clear hvl
      have hlr := (h.below hbel).mono hbel.size
      have hGlt := hGr.lt
      generalize pickP (ns.take k) l = out at *
      go_wp2_with (first | (at_builtin; refine wpList_appF rfl _ _ 34 rfl (w.heap.size + 1) Tryz.underlying34 (by kernel_rfl) _ _ _ rfl (own_below hown hb1) rfl (by omega) (by have := hb1.size; have := hbel.size; omega) rfl ?_; intro a' c' w2 hown2 hb2 hz2) | (go_at_call 95; refine (says_any ns[k] l _ w.heap.size _ hGr hlr hl (by omega)).mono ?_; rintro e w1 ⟨rfl, hb1⟩))
      go_roundw
      case rel => exact ⟨k + 1, by go_num, by omega, by rw [HV.out, fcells_append, List.length_append]; exact hown2, (hGr.below hb1 hGlt).below hb2 (by omega), (hbel.trans (hb1.mono hbel.size)).trans (hb2.mono (by omega))⟩
      case measure => simp [intOf]; omega
    · have hk' : k = ns.length := by omega
      subst hk'
      rw [List.take_length] at *
      go_wp2
      go_ret
      exact ⟨_, rfl, own_base hown (by omega), hbel⟩

theorem pickP_one (n : Bytes) (l : List F) : pickP [n] l = [saysF n l] := rfl
theorem ssum_one (n : Bytes) : ssum [n] = n.length + 1 := by simp [ssum]

/-- Do fields say of each name what was picked? -/
def saysOk (l : List F) (p : F) : Bool := (saysF p.n l).v == p.v && (saysF p.n l).m == p.m
def matchP (ps l : List F) : Bool := ps.all (saysOk l)
theorem all_take_succ' (f : F → Bool) (ps : List F) (k : Nat) (h : k < ps.length) (ha : (ps.take k).all f = true) (hk : f ps[k] = true) : (ps.take (k + 1)).all f = true := by
  rw [take_snoc ps k h, List.all_append, ha]; simp [hk]
theorem all_miss' (f : F → Bool) (ps : List F) (k : Nat) (h : k < ps.length) (hk : f ps[k] = false) : ps.all f = false := by
  rw [List.all_eq_false]
  exact ⟨ps[k], List.getElem_mem h, by simp [hk]⟩

set_option maxRecDepth 100000 in
set_option maxHeartbeats 4000000 in
theorem Match_any (ps l : List F) (vp v : Value) (w : World) (hp : Fs w.heap.size w vp ps) (h : Fs w.heap.size w v l) (hl : fsum l ≤ 1099511627776) (hs : ∀ p ∈ ps, p.n.length ≤ 549755813888) :
    Calls Tryz.prog 63 #[vp, v] w fun e w' => e = .returned (.bool (matchP ps l)) ∧ Below w.heap.size w w' := by
  obtain ⟨pa, ca, rfl, hm⟩ := hp.form
  have HN := Lib.hid hs
  clear hs
  go_enter Tryz.func63, Tryz.ntmps63
  go_wp2
  go_loopw [10] (fun i wr => ∃ k : Nat, i = .int .i64 k ∧ k ≤ ps.length ∧ Hid ((ps.take k).all (saysOk l) = true) ∧ Below w.heap.size w wr) (fun i _ => ps.length - (intOf i).toNat)
  case atStart => exact ⟨0, rfl, Nat.zero_le _, rfl, Below.refl _ _⟩
  case round =>
    obtain ⟨k, rfl, hk, HA, hbel⟩ := hrel
    by_cases hlt : k < ps.length
    · obtain ⟨b, off, rfl, hbb, c0, c1, c2⟩ := (hp.below hbel).at k hlt
      have hnk := HN.out ps[k] (List.getElem_mem hlt)
      have HK := Lib.hid (all_take_succ' (saysOk l) ps k hlt HA.out)
      have HF := Lib.hid (all_miss' (saysOk l) ps k hlt)
      have HS : Hid (saysOk l ps[k] = ((saysF ps[k].n l).v == ps[k].v && (saysF ps[k].n l).m == ps[k].m)) := rfl
      have hlr := (h.below hbel).mono hbel.size
      have hZ := Blk.new wr 89 (fcl ps[k])
      have hal : Below wr.heap.size wr (wr.alloc (.cells (fcl ps[k]) 89)) := (Below.refl _ _).alloc (Nat.le_refl _) _
      have hl1 := (hlr.below hal).mono hal.size
      have hZ2 := hZ.alloc (.cells #[S ps[k].n] 9)
      have hal2 : Below (wr.alloc (.cells (fcl ps[k]) 89)).heap.size (wr.alloc (.cells (fcl ps[k]) 89)) ((wr.alloc (.cells (fcl ps[k]) 89)).alloc (.cells #[S ps[k].n] 9)) := (Below.refl _ _).alloc (Nat.le_refl _) _
      have hl2 := (hl1.below hal2).mono hal2.size
      have hln : Ss ((wr.alloc (.cells (fcl ps[k]) 89)).alloc (.cells #[S ps[k].n] 9)).heap.size ((wr.alloc (.cells (fcl ps[k]) 89)).alloc (.cells #[S ps[k].n] 9)) (.slice (some ⟨wr.heap.size + 1, 0, none⟩) 1 1) [ps[k].n] :=
        (Rd.lit_at (wr.alloc (.cells (fcl ps[k]) 89)) (wr.heap.size + 1) (by simp) 9 #[S ps[k].n] 1 1 rfl (by decide)).mono (by simp)
      have hw2 := Bl.tr hal hal2
      clear hlr hZ hal hl1 hal2
      go_wp2_with fail
      refine (Pick_any [ps[k].n] l _ v _ hln hl2 hl (by rw [ssum_one]; omega)).mono ?_
      rintro e w1 ⟨vq, rfl, hvq, hb1⟩
      rw [pickP_one] at hvq
      have hq : Fs w1.heap.size w1 vq [saysF ps[k].n l] := Fs.own hvq
      have hZ1 := hZ2.on hb1
      have hw1 := Bl.tr hw2 hb1
      have hr1 := hbel.trans (hw1.mono hbel.size)
      have zl := hZ1.lt
      clear hZ2 hw2 hb1 hvq hln hl2
      generalize saysF ps[k].n l = q at *
      obtain ⟨pq, cq, rfl, hmq⟩ := hq.form
      obtain ⟨bq, oq, rfl, hbq, d0, d1, d2⟩ := hq.at 0 (by simp)
      simp at d0 d1 d2
      have z1 := hZ1.cell 1
      have z2 := hZ1.cell 2
      simp at z1 z2
      by_cases e1 : q.v = ps[k].v
      · have g1 : (!q.v == ps[k].v) = false := by simp [e1]
        by_cases e2 : q.m = ps[k].m
        · have g2 : (q.m != ps[k].m) = false := by simp [e2]
          have g3 : (!q.m == ps[k].m) = false := by simp [e2]
          have HY := Lib.hid (HK.out (by rw [HS.out]; simp [e1, e2]))
          clear e1 e2
          go_wp2
          go_roundw
          case rel => exact ⟨k + 1, by go_num, by omega, HY, hr1.alloc (by have := hr1.size; omega) _⟩
          case measure => simp [intOf]; omega
        · have g2 : (q.m != ps[k].m) = true := by simpa using e2
          have g3 : (!q.m == ps[k].m) = true := by simpa using e2
          have HY := Lib.hid (HF.out (by rw [HS.out]; simp [e2]))
          clear e1 e2
          go_wp2
          go_ret
          exact ⟨ret_bool (by rw [matchP, HY.out]), hr1.alloc (by have := hr1.size; omega) _⟩
      · have g1 : (!q.v == ps[k].v) = true := by simpa using e1
        have HY := Lib.hid (HF.out (by rw [HS.out]; simp [e1]))
        clear e1
        go_wp2
        go_ret
        exact ⟨ret_bool (by rw [matchP, HY.out]), hr1.alloc (by have := hr1.size; omega) _⟩
    · have hk' : k = ps.length := by omega
      subst hk'
      go_wp2
      go_ret
      exact ⟨ret_bool (by have := HA.out; rw [List.take_length] at this; rw [matchP, this]), hbel⟩

end Go.Proofs.YtahapblgmehngaaGreatDoor

