
/- The walks of layer 19: an entry is used. -/
import Derived.Test.YtnflihjgbkocnaaDoorShq3
namespace Go.Proofs.YtnflihjgbkocnaaDoor
open Go.RowKit Go.Dr

set_option linter.unusedSimpArgs false in
set_option linter.unusedVariables false in
set_option linter.unnecessarySimpa false in
theorem touch_any (fb rb s R m : Nat) (most last : Int) (a b : List Nd) (n : Nd) (w : World) (h : Sh fb rb w s R m most last (a ++ n :: b)) :
    ∃ w1 w2, (Calls Tryd.prog 30 #[Ptr n.b] w fun e w' => e = .returned (.tuple #[]) ∧ w' = w1) ∧ (Calls Tryd.prog 31 #[Ptr s, Ptr n.b] w1 fun e w' => e = .returned (.tuple #[]) ∧ w' = w2) ∧ Sh fb rb w2 s R m most last (a ++ b ++ [n]) ∧ But (Foot s R m (a ++ n :: b)) w w2 := by
  have hne := h.ne_s
  have hat := h.at
  obtain ⟨p, ep⟩ : ∃ p, p = lastOr (a.map Nd.n) R := ⟨_, rfl⟩
  obtain ⟨q, eq⟩ : ∃ q, q = headOr (b.map Nd.n) R := ⟨_, rfl⟩
  have hmem : ∀ n' ∈ a ++ b, n' ∈ a ++ n :: b := fun n' hn' => mem_more hn'
  have hpm : p = R ∨ ∃ n' ∈ a ++ b, n'.b = p := by
    rcases last_of a R with e | ⟨n', hn, e⟩
    · exact .inl (ep.trans e)
    · exact .inr ⟨n', by simp [hn], e.trans ep.symm⟩
  have hqm : q = R ∨ ∃ n' ∈ a ++ b, n'.b = q := by
    rcases head_of b R with e | ⟨n', hn, e⟩
    · exact .inl (eq.trans e)
    · exact .inr ⟨n', by simp [hn], e.trans eq.symm⟩
  have hnd := h.ring.nodup
  rw [nd_blocks, List.map_append, List.map_cons] at hnd
  have hnn : n.b ∉ R :: (a ++ b).map Nd.b := by
    rw [List.map_append]
    simp only [List.nodup_cons, List.nodup_append, List.mem_append, List.mem_cons] at hnd ⊢
    grind
  have hnb : ∀ k, (k = R ∨ ∃ n' ∈ a ++ b, n'.b = k) → k ≠ n.b := by
    rintro k (e | ⟨n', hn', e⟩) e1
    · exact hnn (by rw [← e1, e]; simp)
    · exact hnn (by rw [← e1, ← e]; exact List.mem_cons_of_mem _ (List.mem_map_of_mem hn'))
  have hsk : ∀ k, (k = R ∨ ∃ n' ∈ a ++ b, n'.b = k) → s ≠ k := by
    rintro k (e | ⟨n', hn', e⟩)
    · rw [e]; exact hne.1
    · rw [← e]; exact fun e => (hne.2.2.2 n' (hmem n' hn')).1 e.symm
  have hmk : ∀ k, (k = R ∨ ∃ n' ∈ a ++ b, n'.b = k) → m ≠ k := by
    rintro k (e | ⟨n', hn', e⟩)
    · rw [e]; exact hne.2.2.1
    · rw [← e]; exact fun e => (hne.2.2.2 n' (hmem n' hn')).2.1 e.symm
  have hfk : ∀ k, (k = R ∨ ∃ n' ∈ a ++ b, n'.b = k) → Foot s R m (a ++ n :: b) k := by
    rintro k (e | ⟨n', hn', e⟩)
    · exact .inr (.inr (.inl e))
    · exact .inr (.inr (.inr (e ▸ List.mem_map_of_mem (hmem n' hn'))))
  have hin : ∀ {k}, (k = R ∨ ∃ n' ∈ a ++ b, n'.b = k) → (k = R ∨ ∃ n' ∈ a ++ n :: b, n'.b = k) := by
    rintro k (e | ⟨n', hn', e⟩)
    · exact .inl e
    · exact .inr ⟨n', hmem n' hn', e⟩
  obtain ⟨kp, p1, p2, hpb⟩ := ring_cell h (hin hpm)
  obtain ⟨kq, q1, q2, hqb⟩ := ring_cell h (hin hqm)
  have hout := h.ring
  rw [List.map_append, List.map_cons] at hout
  have hout := hout.out
  rw [← ep, ← eq] at hat
  rw [← ep, ← eq, ← List.map_append] at hout
  have hC := out_any n.b p q (Ptr p2) (Ptr q1) w (hat.cell 9) (hat.cell 10) (hnb p hpm) (hnb q hqm) (hpb.cell 10) (hpb.free 10) (hqb.cell 9) (hqb.free 9)
  obtain ⟨w1, ew⟩ : ∃ w1 : World, w1 = ((w.setCell ⟨p, 10, none⟩ (Ptr q)).setCell ⟨q, 9, none⟩ (Ptr p)).drew := ⟨_, rfl⟩
  rw [← ew] at hC
  have hr1 : Ring w1 57 R ((a ++ b).map Nd.n) := by rw [ew]; exact hout.block fun _ _ => rfl
  have hs1 : Blk w1 s 60 #[.int .i64 most, .int .i64 (costs ((a ++ n :: b).map Nd.x) : Nat), .int .i64 last, Ptr R, .map (some m)] := by rw [ew]; exact ((h.blk.other (p := ⟨p, 10, none⟩) (hsk p hpm) _).other (p := ⟨q, 9, none⟩) (hsk q hqm) _).drew
  have hn1 : Blk w1 n.b 57 (n.k.cells p q) := by rw [ew]; exact ((hat.other (p := ⟨p, 10, none⟩) (fun e => hnb p hpm e.symm) _).other (p := ⟨q, 9, none⟩) (fun e => hnb q hqm e.symm) _).drew
  have hk1 : ∀ k, k ≠ p → k ≠ q → w1.heap[k]? = w.heap[k]? := fun k h1 h2 => by
    rw [ew]
    exact (Below.heap_setCell _ ⟨q, 9, none⟩ _ k h2).trans (Below.heap_setCell _ ⟨p, 10, none⟩ _ k h1)
  have hb1 : But (Foot s R m (a ++ n :: b)) w w1 := by rw [ew]; exact (((But.refl _ w).setCell (p := ⟨p, 10, none⟩) (.inl (hfk p hpm)) _).setCell (p := ⟨q, 9, none⟩) (.inl (hfk q hqm)) _).drew
  obtain ⟨z, ez⟩ : ∃ z, z = lastOr ((a ++ b).map Nd.n) R := ⟨_, rfl⟩
  have hzm : z = R ∨ ∃ n' ∈ a ++ b, n'.b = z := by
    rcases last_of (a ++ b) R with e | ⟨n', hn, e⟩
    · exact .inl (ez.trans e)
    · exact .inr ⟨n', hn, e.trans ez.symm⟩
  have hzb : ∃ k z1 z2, Blk w1 z 57 (K.cells k z1 z2) := by
    rcases hzm with e | ⟨n', hn', e⟩
    · rw [e]; exact ⟨_, _, _, hr1.root⟩
    · obtain ⟨c, d, ecd⟩ := List.append_of_mem hn'
      rw [ecd, List.map_append, List.map_cons] at hr1
      rw [← e]
      exact ⟨_, _, _, hr1.at⟩
  obtain ⟨kz, z1, z2, hzb⟩ := hzb
  have hroot := hr1.root
  rw [← ez] at hroot
  have hU := used_any s n.b R z (Ptr p) (Ptr q) (Ptr z2) (.int .i64 0) w1 (hs1.cell 3) (hroot.cell 9) (hroot.free 9) (hn1.cell 9) (hn1.free 9) (hn1.cell 10) (hn1.free 10) (hzb.cell 10) (hzb.free 10) (fun e => (hne.2.2.2 n (by simp)).1 e.symm) (hnb R (.inl rfl)) (hnb z hzm) (hsk z hzm) hne.1
  have hr2 := hr1.used (n := n.n) _ hn1 (fun p' q' => by
    show ((K.cells n.k p q).setIfInBounds 9 (Ptr p')).setIfInBounds 10 (Ptr q') = K.cells n.k p' q'
    rw [K.set9, K.set10]) (by show n.b ∉ _; rw [nd_blocks]; exact hnn)
  rw [← ez] at hr2
  have hn1' : n.n.1 = n.b := rfl
  rw [hn1'] at hr2
  obtain ⟨w2, ew2⟩ : ∃ w2 : World, w2 = ((((w1.setCell ⟨n.b, 9, none⟩ (Ptr z)).setCell ⟨n.b, 10, none⟩ (Ptr R)).setCell ⟨z, 10, none⟩ (Ptr n.b)).setCell ⟨R, 9, none⟩ (Ptr n.b)).drew := ⟨_, rfl⟩
  rw [← ew2] at hU
  have hk2 : ∀ k, k ≠ n.b → k ≠ z → k ≠ R → w2.heap[k]? = w1.heap[k]? := fun k h1 h2 h3 => by
    rw [ew2]
    exact (Below.heap_setCell _ ⟨R, 9, none⟩ _ k h3).trans ((Below.heap_setCell _ ⟨z, 10, none⟩ _ k h2).trans ((Below.heap_setCell _ ⟨n.b, 10, none⟩ _ k h1).trans (Below.heap_setCell _ ⟨n.b, 9, none⟩ _ k h1)))
  have hfn : Foot s R m (a ++ n :: b) n.b := .inr (.inr (.inr (List.mem_map_of_mem (by simp))))
  have hb2 : But (Foot s R m (a ++ n :: b)) w w2 := by
    rw [ew2]
    exact ((((hb1.setCell (p := ⟨n.b, 9, none⟩) (.inl hfn) _).setCell (p := ⟨n.b, 10, none⟩) (.inl hfn) _).setCell (p := ⟨z, 10, none⟩) (.inl (hfk z hzm)) _).setCell (p := ⟨R, 9, none⟩) (.inl (.inr (.inr (.inl rfl)))) _).drew
  have hperm : (a ++ n :: b).Perm (a ++ b ++ [n]) := by
    rw [List.append_assoc]
    exact List.Perm.append_left a (List.perm_append_singleton n b).symm
  refine ⟨w1, w2, hC, hU, ?_, hb2⟩
  have hcost : costs ((a ++ b ++ [n]).map Nd.x) = costs ((a ++ n :: b).map Nd.x) := by
    unfold costs
    exact ((hperm.map Nd.x).map It.cost).symm.sum_nat
  refine ⟨?_, ?_, ?_, ?_, ?_, ?_, h.most1⟩
  · rw [hcost]
    exact hs1.block (hk2 s (fun e => (hne.2.2.2 n (by simp)).1 e.symm) (hsk z hzm) hne.1)
  · rw [List.map_append]
    rw [ew2]
    exact hr2.block fun _ _ => rfl
  · refine (h.map.block ?_).perm (hperm.map _)
    exact (hk2 m (fun e => (hne.2.2.2 n (by simp)).2.1 e.symm) (hmk z hzm) hne.2.2.1).trans (hk1 m (hmk p hpm) (hmk q hqm))
  · exact fun n' hn' => (h.rows n' (hperm.mem_iff.2 hn')).block fun g cur hg _ => hb2.block g (by rcases hg with hg | hg <;> exact (Array.getElem?_eq_some_iff.1 hg).1) (by
      rcases hg with hg | hg
      · exact h.off hg (by decide) (by decide)
      · exact h.off hg (by decide) (by decide))
  · exact fun k hk => h.base k (foot_more (fun n' hn' => hperm.mem_iff.2 hn') hk)
  · rw [hcost]; exact h.room
end Go.Proofs.YtnflihjgbkocnaaDoor
