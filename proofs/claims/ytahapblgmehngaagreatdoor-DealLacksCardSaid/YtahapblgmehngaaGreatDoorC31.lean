/- Parts of the proof of DealLacks_holds: the texts Shq7 Join VarS. -/
import Derived.Deep.DrawnRows
import Derived.Deep.RegionHeld3
import Derived.Test.YtahapblgmehngaaGreatDoorC27
import Derived.Test.YtahapblgmehngaaGreatDoorC12
import Derived.Test.YtahapblgmehngaaGreatDoorC1
set_option linter.unusedSimpArgs false
set_option linter.unusedVariables false
set_option linter.unnecessarySimpa false
namespace Go.Proofs.YtahapblgmehngaaGreatDoor
open Go.RowKit Go.Dr

theorem touch_any (fb rb s R m : Nat) (most last : Int) (a b : List Nd) (n : Nd) (w : World) (h : Sh fb rb w s R m most last (a ++ n :: b)) :
    ∃ w1 w2, (Calls Tryz.prog 64 #[Ptr n.b] w fun e w' => e = .returned (.tuple #[]) ∧ w' = w1) ∧ (Calls Tryz.prog 65 #[Ptr s, Ptr n.b] w1 fun e w' => e = .returned (.tuple #[]) ∧ w' = w2) ∧ Sh fb rb w2 s R m most last (a ++ b ++ [n]) ∧ But (Foot s R m (a ++ n :: b)) w w2 := by
  have hne := h.ne_s
  have hat := h.at
  obtain ⟨p, ep⟩ : ∃ p, p = lastOr (a.map Nd.n) R := ⟨_, rfl⟩
  obtain ⟨q, eq⟩ : ∃ q, q = headOr (b.map Nd.n) R := ⟨_, rfl⟩
  have hmem : ∀ n' ∈ a ++ b, n' ∈ a ++ n :: b := fun n' hn' => mem_more hn'
  have hpm : p = R ∨ ∃ n' ∈ a ++ b, n'.b = p := by
    rcases last_of a R with e | ⟨n', hn, e⟩
    · exact .inl (ep.trans e)
    · exact .inr ⟨n', by simp [hn], e.trans ep.symm⟩
  have hqm : q = R ∨ ∃ n' ∈ a ++ b, n'.b = q := by
    rcases head_of b R with e | ⟨n', hn, e⟩
    · exact .inl (eq.trans e)
    · exact .inr ⟨n', by simp [hn], e.trans eq.symm⟩
  have hnd := h.ring.nodup
  rw [nd_blocks, List.map_append, List.map_cons] at hnd
  have hnn : n.b ∉ R :: (a ++ b).map Nd.b := by
    rw [List.map_append]
    simp only [List.nodup_cons, List.nodup_append, List.mem_append, List.mem_cons] at hnd ⊢
    grind
  have hnb : ∀ k, (k = R ∨ ∃ n' ∈ a ++ b, n'.b = k) → k ≠ n.b := by
    rintro k (e | ⟨n', hn', e⟩) e1
    · exact hnn (by rw [← e1, e]; simp)
    · exact hnn (by rw [← e1, ← e]; exact List.mem_cons_of_mem _ (List.mem_map_of_mem hn'))
  have hsk : ∀ k, (k = R ∨ ∃ n' ∈ a ++ b, n'.b = k) → s ≠ k := by
    rintro k (e | ⟨n', hn', e⟩)
    · rw [e]; exact hne.1
    · rw [← e]; exact fun e => (hne.2.2.2 n' (hmem n' hn')).1 e.symm
  have hmk : ∀ k, (k = R ∨ ∃ n' ∈ a ++ b, n'.b = k) → m ≠ k := by
    rintro k (e | ⟨n', hn', e⟩)
    · rw [e]; exact hne.2.2.1
    · rw [← e]; exact fun e => (hne.2.2.2 n' (hmem n' hn')).2.1 e.symm
  have hfk : ∀ k, (k = R ∨ ∃ n' ∈ a ++ b, n'.b = k) → Foot s R m (a ++ n :: b) k := by
    rintro k (e | ⟨n', hn', e⟩)
    · exact .inr (.inr (.inl e))
    · exact .inr (.inr (.inr (e ▸ List.mem_map_of_mem (hmem n' hn'))))
  have hin : ∀ {k}, (k = R ∨ ∃ n' ∈ a ++ b, n'.b = k) → (k = R ∨ ∃ n' ∈ a ++ n :: b, n'.b = k) := by
    rintro k (e | ⟨n', hn', e⟩)
    · exact .inl e
    · exact .inr ⟨n', hmem n' hn', e⟩
  obtain ⟨kp, p1, p2, hpb⟩ := ring_cell h (hin hpm)
  obtain ⟨kq, q1, q2, hqb⟩ := ring_cell h (hin hqm)
  have hout := h.ring
  rw [List.map_append, List.map_cons] at hout
  have hout := hout.out
  rw [← ep, ← eq] at hat
  rw [← ep, ← eq, ← List.map_append] at hout
  have hC := out_any n.b p q (Ptr p2) (Ptr q1) w (hat.cell 9) (hat.cell 10) (hnb p hpm) (hnb q hqm) (hpb.cell 10) (hpb.free 10) (hqb.cell 9) (hqb.free 9)
  obtain ⟨w1, ew⟩ : ∃ w1 : World, w1 = ((w.setCell ⟨p, 10, none⟩ (Ptr q)).setCell ⟨q, 9, none⟩ (Ptr p)).drew := ⟨_, rfl⟩
  rw [← ew] at hC
  have hr1 : Ring w1 97 R ((a ++ b).map Nd.n) := by rw [ew]; exact hout.block fun _ _ => rfl
  have hs1 : Blk w1 s 100 #[.int .i64 most, .int .i64 (costs ((a ++ n :: b).map Nd.x) : Nat), .int .i64 last, Ptr R, .map (some m)] := by rw [ew]; exact ((h.blk.other (p := ⟨p, 10, none⟩) (hsk p hpm) _).other (p := ⟨q, 9, none⟩) (hsk q hqm) _).drew
  have hn1 : Blk w1 n.b 97 (n.k.cells p q) := by rw [ew]; exact ((hat.other (p := ⟨p, 10, none⟩) (fun e => hnb p hpm e.symm) _).other (p := ⟨q, 9, none⟩) (fun e => hnb q hqm e.symm) _).drew
  have hk1 : ∀ k, k ≠ p → k ≠ q → w1.heap[k]? = w.heap[k]? := fun k h1 h2 => by
    rw [ew]
    exact (Below.heap_setCell _ ⟨q, 9, none⟩ _ k h2).trans (Below.heap_setCell _ ⟨p, 10, none⟩ _ k h1)
  have hb1 : But (Foot s R m (a ++ n :: b)) w w1 := by rw [ew]; exact (((But.refl _ w).setCell (p := ⟨p, 10, none⟩) (.inl (hfk p hpm)) _).setCell (p := ⟨q, 9, none⟩) (.inl (hfk q hqm)) _).drew
  obtain ⟨z, ez⟩ : ∃ z, z = lastOr ((a ++ b).map Nd.n) R := ⟨_, rfl⟩
  have hzm : z = R ∨ ∃ n' ∈ a ++ b, n'.b = z := by
    rcases last_of (a ++ b) R with e | ⟨n', hn, e⟩
    · exact .inl (ez.trans e)
    · exact .inr ⟨n', hn, e.trans ez.symm⟩
  have hzb : ∃ k z1 z2, Blk w1 z 97 (K.cells k z1 z2) := by
    rcases hzm with e | ⟨n', hn', e⟩
    · rw [e]; exact ⟨_, _, _, hr1.root⟩
    · obtain ⟨c, d, ecd⟩ := List.append_of_mem hn'
      rw [ecd, List.map_append, List.map_cons] at hr1
      rw [← e]
      exact ⟨_, _, _, hr1.at⟩
  obtain ⟨kz, z1, z2, hzb⟩ := hzb
  have hroot := hr1.root
  rw [← ez] at hroot
  have hU := used_any s n.b R z (Ptr p) (Ptr q) (Ptr z2) (.int .i64 0) w1 (hs1.cell 3) (hroot.cell 9) (hroot.free 9) (hn1.cell 9) (hn1.free 9) (hn1.cell 10) (hn1.free 10) (hzb.cell 10) (hzb.free 10) (fun e => (hne.2.2.2 n (by simp)).1 e.symm) (hnb R (.inl rfl)) (hnb z hzm) (hsk z hzm) hne.1
  have hr2 := hr1.used (n := n.n) _ hn1 (fun p' q' => by
    show ((K.cells n.k p q).setIfInBounds 9 (Ptr p')).setIfInBounds 10 (Ptr q') = K.cells n.k p' q'
    rw [K.set9, K.set10]) (by show n.b ∉ _; rw [nd_blocks]; exact hnn)
  rw [← ez] at hr2
  have hn1' : n.n.1 = n.b := rfl
  rw [hn1'] at hr2
  obtain ⟨w2, ew2⟩ : ∃ w2 : World, w2 = ((((w1.setCell ⟨n.b, 9, none⟩ (Ptr z)).setCell ⟨n.b, 10, none⟩ (Ptr R)).setCell ⟨z, 10, none⟩ (Ptr n.b)).setCell ⟨R, 9, none⟩ (Ptr n.b)).drew := ⟨_, rfl⟩
  rw [← ew2] at hU
  have hk2 : ∀ k, k ≠ n.b → k ≠ z → k ≠ R → w2.heap[k]? = w1.heap[k]? := fun k h1 h2 h3 => by
    rw [ew2]
    exact (Below.heap_setCell _ ⟨R, 9, none⟩ _ k h3).trans ((Below.heap_setCell _ ⟨z, 10, none⟩ _ k h2).trans ((Below.heap_setCell _ ⟨n.b, 10, none⟩ _ k h1).trans (Below.heap_setCell _ ⟨n.b, 9, none⟩ _ k h1)))
  have hfn : Foot s R m (a ++ n :: b) n.b := .inr (.inr (.inr (List.mem_map_of_mem (by simp))))
  have hb2 : But (Foot s R m (a ++ n :: b)) w w2 := by
    rw [ew2]
    exact ((((hb1.setCell (p := ⟨n.b, 9, none⟩) (.inl hfn) _).setCell (p := ⟨n.b, 10, none⟩) (.inl hfn) _).setCell (p := ⟨z, 10, none⟩) (.inl (hfk z hzm)) _).setCell (p := ⟨R, 9, none⟩) (.inl (.inr (.inr (.inl rfl)))) _).drew
  have hperm : (a ++ n :: b).Perm (a ++ b ++ [n]) := by
    rw [List.append_assoc]
    exact List.Perm.append_left a (List.perm_append_singleton n b).symm
  refine ⟨w1, w2, hC, hU, ?_, hb2⟩
  have hcost : costs ((a ++ b ++ [n]).map Nd.x) = costs ((a ++ n :: b).map Nd.x) := by
    unfold costs
    exact ((hperm.map Nd.x).map It.cost).symm.sum_nat
  refine ⟨?_, ?_, ?_, ?_, ?_, ?_, h.most1⟩
  · rw [hcost]
    exact hs1.block (hk2 s (fun e => (hne.2.2.2 n (by simp)).1 e.symm) (hsk z hzm) hne.1)
  · rw [List.map_append]
    rw [ew2]
    exact hr2.block fun _ _ => rfl
  · refine (h.map.block ?_).perm (hperm.map _)
    exact (hk2 m (fun e => (hne.2.2.2 n (by simp)).2.1 e.symm) (hmk z hzm) hne.2.2.1).trans (hk1 m (hmk p hpm) (hmk q hqm))
  · exact fun n' hn' => (h.rows n' (hperm.mem_iff.2 hn')).block fun g cur hg _ => hb2.block g (by rcases hg with hg | hg <;> exact (Array.getElem?_eq_some_iff.1 hg).1) (by
      rcases hg with hg | hg
      · exact h.off hg (by decide) (by decide)
      · exact h.off hg (by decide) (by decide))
  · exact fun k hk => h.base k (foot_more (fun n' hn' => hperm.mem_iff.2 hn') hk)
  · rw [hcost]; exact h.room
end Go.Proofs.YtahapblgmehngaaGreatDoor

namespace Go.Proofs.YtahapblgmehngaaGreatDoor
open Go.RowKit Go.Dr

/-- The values in one, with ', ' between. -/
def joinS (v : List Bytes) : Bytes := Lib.join v [44, 32]

theorem joinS_nil : joinS [] = [] := rfl
theorem lens_ssum (r : List Bytes) : Lib.lens r + r.length = ssum r := by
  induction r with
  | nil => rfl
  | cons y r ih => simp only [Lib.lens, List.map_cons, List.sum_cons, List.length_cons, ssum] at *; omega
theorem joinS_length (vs : List Bytes) : (joinS vs).length ≤ 2 * ssum vs := by
  cases vs with
  | nil => simp [joinS_nil]
  | cons x r =>
    have := Lib.join_length x r [44, 32]
    have h2 := lens_ssum (x :: r)
    simp only [joinS, List.length_cons, List.length_nil] at *
    omega

set_option maxRecDepth 100000 in
set_option maxHeartbeats 1000000 in
theorem Joins_any (vs : List Bytes) (v : Value) (w : World) (h : Ss w.heap.size w v vs) (hl : ssum vs ≤ 1099511627776) :
    Calls Tryz.prog 96 #[v, S [44, 32]] w fun e w' => e = .returned (S (joinS vs)) ∧ Below w.heap.size w w' := by
  have hbnd := joinS_length vs
  obtain ⟨a, cap, rfl, h2, h3, h4, h5, h6⟩ := h
  cases vs with
  | nil =>
    refine (Tryz.strings_Join_none a cap ⟨#[44, 32]⟩ w).mono ?_
    rintro e w' ⟨rfl, rfl⟩
    exact ⟨rfl, Below.refl _ _⟩
  | cons x r =>
    obtain ⟨b, off, rfl, hb, _⟩ := h6 0 (S x) rfl
    have hmap : ((x :: r).map fun l => (⟨l.toArray⟩ : ByteArray)).map (·.data.toList) = x :: r := by
      rw [List.map_map]
      conv => rhs; rw [← List.map_id (x :: r)]
      rfl
    have hlen := ssum_length (x :: r)
    have hc := Tryz.strings_Join b off cap ((x :: r).map fun l => ⟨l.toArray⟩) ⟨#[44, 32]⟩ w (fun j y hy => by
      rw [List.getElem?_map] at hy
      cases hj : (x :: r)[j]? with
      | none => rw [hj] at hy; cases hy
      | some z =>
        rw [hj] at hy
        obtain rfl := Option.some.inj hy
        obtain ⟨b', off', e1, _, e3⟩ := h6 j (S z) (by rw [List.getElem?_map, hj]; rfl)
        simp only [Option.some.injEq, Addr.mk.injEq, and_true] at e1
        obtain ⟨rfl, rfl⟩ := e1
        exact e3) hb (by rw [List.length_map]; omega) (by rw [List.length_map]; exact h2)
      (by rw [hmap]; show (joinS (x :: r)).length ≤ _; omega)
    rw [hmap, List.length_map] at hc
    exact hc

theorem joinS_take (vs : List Bytes) (k : Nat) (h : k < vs.length) : joinS (vs.take (k + 1)) = joinS (vs.take k) ++ (if 0 < k then [44, 32] else []) ++ vs[k] := by
  cases vs with
  | nil => simp at h
  | cons x r =>
    cases k with
    | zero => simp [joinS, Lib.join_one, Lib.join_nil]
    | succ k =>
      have hk : k < r.length := by simpa using h
      have := Lib.joinTail_take_succ [44, 32] r k r[k] (List.getElem?_eq_getElem hk)
      simp only [joinS, List.take_succ_cons, Lib.join_cons, List.getElem_cons_succ, Nat.zero_lt_succ, if_true]
      rw [this]
      simp

end Go.Proofs.YtahapblgmehngaaGreatDoor

namespace Go.Proofs.YtahapblgmehngaaGreatDoor
open Go.RowKit Go.Dr

set_option maxHeartbeats 1000000 in
theorem PSame_any (a b : List F) (va vb : Value) (w : World) (ha : Fs w.heap.size w va a) (hb : Fs w.heap.size w vb b) :
    Calls Tryz.prog 17 #[va, vb] w fun e w' => e = .returned (.bool (a == b)) ∧ Below w.heap.size w w' := by
  obtain ⟨pa, ca, rfl, hma⟩ := ha.form
  obtain ⟨pb, cb, rfl, hmb⟩ := hb.form
  by_cases hlen : a.length = b.length
  · have h1 : ((a.length : Int) == (b.length : Int)) = true := by simp [hlen]
    have h2 : ((a.length : Int) != (b.length : Int)) = false := by simp [hlen]
    have HL := Lib.hid hlen
    clear hlen
    go_enter Tryz.func17, Tryz.ntmps17
    go_wp2
    go_loopw [5] (fun i wr => ∃ k : Nat, k ≤ a.length ∧ i = .int .i64 k ∧ Hid (a.take k = b.take k) ∧ Below w.heap.size w wr) (fun i _ => a.length - (intOf i).toNat)
    case atStart => exact ⟨0, Nat.zero_le _, rfl, rfl, Below.refl _ _⟩
    case round =>
      obtain ⟨k, hk, rfl, HT, hbel⟩ := hrel
      by_cases hlt : k < a.length
      · have hlt' : k < b.length := by rw [← HL.out]; exact hlt
        obtain ⟨ba, oa, rfl, hba, hca0, hca1, hca2⟩ := (ha.below hbel).at k hlt
        obtain ⟨bb, ob, rfl, hbb, hcb0, hcb1, hcb2⟩ := (hb.below hbel).at k hlt'
        have HE := Lib.hid (f_eq a[k] b[k])
        by_cases e1 : a[k].n = b[k].n
        · by_cases e2 : a[k].v = b[k].v
          · by_cases e3 : a[k].m = b[k].m
            · have he : a[k] = b[k] := by rw [← beq_iff_eq, HE.out]; simp [e1, e2, e3]
              have HN := Lib.hid (take_eq_succ hlt hlt' HT.out he)
              clear he
              go_wp2_with fail
              go_quiet (fail)
              go_wp2
              go_roundw
              case rel => exact ⟨k + 1, by omega, by go_num, HN, below_drewN hbel _⟩
              case measure => simp [intOf]; omega
            · have HN := Lib.hid (ne_of_get hlt hlt' (fun h => e3 (by rw [h])))
              go_wp2_with fail
              go_quiet (fail)
              go_wp2
              go_ret
              exact ⟨ret_bool (by symm; rw [beq_eq_false_iff_ne]; exact HN.out), below_drewN hbel _⟩
          · have HN := Lib.hid (ne_of_get hlt hlt' (fun h => e2 (by rw [h])))
            go_wp2_with fail
            go_quiet (fail)
            go_wp2
            go_ret
            exact ⟨ret_bool (by symm; rw [beq_eq_false_iff_ne]; exact HN.out), below_drewN hbel _⟩
        · have HN := Lib.hid (ne_of_get hlt hlt' (fun h => e1 (by rw [h])))
          go_wp2_with fail
          go_quiet (fail)
          go_wp2
          go_ret
          exact ⟨ret_bool (by symm; rw [beq_eq_false_iff_ne]; exact HN.out), below_drewN hbel _⟩
      · go_wp2
        go_ret
        exact ⟨ret_bool (by symm; rw [beq_iff_eq]; have := HT.out; rwa [List.take_of_length_le (by omega), List.take_of_length_le (by rw [← HL.out]; omega)] at this), hbel⟩
  · have h1 : ((a.length : Int) == (b.length : Int)) = false := by simp; omega
    have h2 : ((a.length : Int) != (b.length : Int)) = true := by simp; omega
    go_enter Tryz.func17, Tryz.ntmps17
    go_wp2
    go_ret
    exact ⟨ret_bool (by symm; rw [beq_eq_false_iff_ne]; intro e; exact hlen (by rw [e])), Below.refl _ _⟩


end Go.Proofs.YtahapblgmehngaaGreatDoor

