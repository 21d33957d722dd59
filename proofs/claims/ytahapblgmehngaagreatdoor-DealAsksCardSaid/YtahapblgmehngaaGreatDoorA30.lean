/- Parts of the proof of DealAsks_holds: the texts Shq1. -/
import Derived.Deep.DeepCutAuto
import Derived.Deep.RegionHeld3
import Derived.Deep.RegionWith
import Derived.Test.YtahapblgmehngaaGreatDoorA29
set_option linter.unusedSimpArgs false
set_option linter.unusedVariables false
set_option linter.unnecessarySimpa false
namespace Go.Proofs.YtahapblgmehngaaGreatDoor
open Go.RowKit Go.Dr

theorem last_of (a : List Nd) (R : Nat) : lastOr (a.map Nd.n) R = R ∨ ∃ n ∈ a, n.b = lastOr (a.map Nd.n) R := by
  rcases lastOr_mem (a.map Nd.n) R with e | e
  · exact .inl e
  · rw [nd_blocks] at e
    obtain ⟨n, hn, e⟩ := List.mem_map.1 e
    exact .inr ⟨n, hn, e⟩
theorem head_of (a : List Nd) (R : Nat) : headOr (a.map Nd.n) R = R ∨ ∃ n ∈ a, n.b = headOr (a.map Nd.n) R := by
  rcases headOr_mem (a.map Nd.n) R with e | e
  · exact .inl e
  · rw [nd_blocks] at e
    obtain ⟨n, hn, e⟩ := List.mem_map.1 e
    exact .inr ⟨n, hn, e⟩
/-- The cell of a link that is in the ring, or of the root. -/
theorem ring_cell {fb rb : Nat} {w : World} {s R m : Nat} {most last : Int} {l : List Nd} (h : Sh fb rb w s R m most last l) {b : Nat} (hb : b = R ∨ ∃ n ∈ l, n.b = b) : ∃ k p q, Blk w b 97 (K.cells k p q) := by
  rcases hb with rfl | ⟨n, hn, rfl⟩
  · exact ⟨_, _, _, h.ring.root⟩
  · obtain ⟨p, q, e⟩ := h.nd hn
    exact ⟨_, p, q, e⟩

set_option maxRecDepth 100000 in
set_option maxHeartbeats 4000000 in
theorem drop_any (fb rb s R m : Nat) (most last : Int) (a b : List Nd) (n : Nd) (w : World) (h : Sh fb rb w s R m most last (a ++ n :: b)) :
    Calls Tryz.prog 99 #[Ptr s, Ptr n.b] w fun e w' => e = .returned (.tuple #[]) ∧ Sh fb rb w' s R m most last (a ++ b) ∧ But (Foot s R m (a ++ n :: b)) w w' := by
  have hne := h.ne_s
  have hat := h.at
  obtain ⟨p, ep⟩ : ∃ p, p = lastOr (a.map Nd.n) R := ⟨_, rfl⟩
  obtain ⟨q, eq⟩ : ∃ q, q = headOr (b.map Nd.n) R := ⟨_, rfl⟩
  have hpm : p = R ∨ ∃ n' ∈ a ++ n :: b, n'.b = p := by
    rcases last_of a R with e | ⟨n', hn, e⟩
    · exact .inl (ep.trans e)
    · exact .inr ⟨n', by simp [hn], e.trans ep.symm⟩
  have hqm : q = R ∨ ∃ n' ∈ a ++ n :: b, n'.b = q := by
    rcases head_of b R with e | ⟨n', hn, e⟩
    · exact .inl (eq.trans e)
    · exact .inr ⟨n', by simp [hn], e.trans eq.symm⟩
  have hnd := h.ring.nodup
  rw [nd_blocks, List.map_append, List.map_cons] at hnd
  have hp1 : p ≠ n.b := by
    rcases last_of a R with e | ⟨n', hn, e⟩
    · intro e1; rw [← e1, ep, e] at hnd; simp at hnd
    · intro e1
      simp only [List.nodup_cons, List.nodup_append] at hnd
      exact hnd.2.2.2 n'.b (List.mem_map_of_mem hn) n.b (by simp) (e.trans (ep.symm.trans e1))
  have hq1 : q ≠ n.b := by
    rcases head_of b R with e | ⟨n', hn, e⟩
    · intro e1; rw [← e1, eq, e] at hnd; simp at hnd
    · intro e1
      simp only [List.nodup_cons, List.nodup_append] at hnd
      exact hnd.2.2.1.1 ((e.trans (eq.symm.trans e1)) ▸ List.mem_map_of_mem hn)
  obtain ⟨kp, p1, p2, hpb⟩ := ring_cell h hpm
  obtain ⟨kq, q1, q2, hqb⟩ := ring_cell h hqm
  have hout := h.ring
  rw [List.map_append, List.map_cons] at hout
  have hout := hout.out
  rw [← ep, ← eq] at hat
  rw [← ep, ← eq, ← List.map_append] at hout
  have hsp : s ≠ p := by
    rcases hpm with e | ⟨n', hn, e⟩
    · rw [e]; exact hne.1
    · rw [← e]; exact fun e => (hne.2.2.2 n' hn).1 e.symm
  have hsq : s ≠ q := by
    rcases hqm with e | ⟨n', hn, e⟩
    · rw [e]; exact hne.1
    · rw [← e]; exact fun e => (hne.2.2.2 n' hn).1 e.symm
  have hmp : m ≠ p := by
    rcases hpm with e | ⟨n', hn, e⟩
    · rw [e]; exact hne.2.2.1
    · rw [← e]; exact fun e => (hne.2.2.2 n' hn).2.1 e.symm
  have hmq : m ≠ q := by
    rcases hqm with e | ⟨n', hn, e⟩
    · rw [e]; exact hne.2.2.1
    · rw [← e]; exact fun e => (hne.2.2.2 n' hn).2.1 e.symm
  have hfp : Foot s R m (a ++ n :: b) p := by
    rcases hpm with e | ⟨n', hn, e⟩
    · exact .inr (.inr (.inl e))
    · exact .inr (.inr (.inr (e ▸ List.mem_map_of_mem hn)))
  have hfq : Foot s R m (a ++ n :: b) q := by
    rcases hqm with e | ⟨n', hn, e⟩
    · exact .inr (.inr (.inl e))
    · exact .inr (.inr (.inr (e ▸ List.mem_map_of_mem hn)))
  have hC := out_any n.b p q (Ptr p2) (Ptr q1) w (hat.cell 9) (hat.cell 10) hp1 hq1 (hpb.cell 10) (hpb.free 10) (hqb.cell 9) (hqb.free 9)
  obtain ⟨w1, ew⟩ : ∃ w1 : World, w1 = ((w.setCell ⟨p, 10, none⟩ (Ptr q)).setCell ⟨q, 9, none⟩ (Ptr p)).drew := ⟨_, rfl⟩
  rw [← ew] at hC
  have hr1 : Ring w1 97 R ((a ++ b).map Nd.n) := by rw [ew]; exact hout.block fun _ _ => rfl
  have hs1 : Blk w1 s 100 #[.int .i64 most, .int .i64 (costs ((a ++ n :: b).map Nd.x) : Nat), .int .i64 last, Ptr R, .map (some m)] := by rw [ew]; exact ((h.blk.other (p := ⟨p, 10, none⟩) hsp _).other (p := ⟨q, 9, none⟩) hsq _).drew
  have hn1 : Blk w1 n.b 97 (n.k.cells p q) := by rw [ew]; exact ((hat.other (p := ⟨p, 10, none⟩) (fun e => hp1 e.symm) _).other (p := ⟨q, 9, none⟩) (fun e => hq1 e.symm) _).drew
  have hm1 : PMap Tryz.prog 3 w1 m ((a ++ n :: b).map fun n => (n.x.id, n.b)) := by
    rw [ew]
    refine h.map.block ?_
    exact (Below.heap_setCell _ ⟨q, 9, none⟩ _ m hmq).trans (Below.heap_setCell _ ⟨p, 10, none⟩ _ m hmp)
  have hb1 : But (Foot s R m (a ++ n :: b)) w w1 := by rw [ew]; exact (((But.refl _ w).setCell (p := ⟨p, 10, none⟩) (.inl hfp) _).setCell (p := ⟨q, 9, none⟩) (.inl hfq) _).drew
  have hc1 : costs ((a ++ n :: b).map Nd.x) = costs ((a ++ b).map Nd.x) + n.x.cost := by simp only [List.map_append, List.map_cons, costs_append, costs_cons]; omega
  have hrm := h.room
  have hmm := h.most1
  obtain ⟨c1, ec1⟩ : ∃ c1, c1 = costs ((a ++ n :: b).map Nd.x) := ⟨_, rfl⟩
  obtain ⟨c0, ec0⟩ : ∃ c0, c0 = costs ((a ++ b).map Nd.x) := ⟨_, rfl⟩
  obtain ⟨cn, ecn⟩ : ∃ cn, cn = n.x.cost := ⟨_, rfl⟩
  rw [← ec1] at hs1 hc1 hrm
  rw [← ec0, ← ecn] at hc1
  have v1 : w1.cell? ⟨s, 1, none⟩ = some (.int .i64 (c1 : Nat)) := hs1.cell 1
  have v2 : w1.cell? ⟨n.b, 1, none⟩ = some (.int .i64 (cn : Nat)) := by rw [ecn]; exact hn1.cell 1
  clear ecn
  have f1 := hs1.free 1
  obtain ⟨w2, ew2⟩ : ∃ w2 : World, w2 = (w1.setCell ⟨s, 1, none⟩ (.int .i64 (c0 : Nat))).drew := ⟨_, rfl⟩
  have hs2 : Blk w2 s 100 #[.int .i64 most, .int .i64 (c0 : Nat), .int .i64 last, Ptr R, .map (some m)] := by
    rw [ew2]
    have := (hs1.set 1 (.int .i64 (c0 : Nat))).drew
    simpa using this
  have hn2 : Blk w2 n.b 97 (n.k.cells p q) := by rw [ew2]; exact (hn1.other (p := ⟨s, 1, none⟩) (hne.2.2.2 n (by simp)).1 _).drew
  have hr2 : Ring w2 97 R ((a ++ b).map Nd.n) := by
    rw [ew2]
    refine hr1.block fun k hk => Below.heap_setCell w1 ⟨s, 1, none⟩ _ k ?_
    rw [nd_blocks, List.mem_cons] at hk
    rcases hk with e | hk
    · rw [e]; exact fun e => hne.1 e.symm
    · obtain ⟨n', hn', e⟩ := List.mem_map.1 hk
      rw [← e]
      exact (hne.2.2.2 n' (mem_more hn')).1
  have hm2 : PMap Tryz.prog 3 w2 m ((a ++ n :: b).map fun n => (n.x.id, n.b)) := by rw [ew2]; exact hm1.block (Below.heap_setCell w1 ⟨s, 1, none⟩ _ m fun e => hne.2.1 e.symm)
  have hb2 : But (Foot s R m (a ++ n :: b)) w w2 := by rw [ew2]; exact (hb1.setCell (p := ⟨s, 1, none⟩) (.inl (.inl rfl)) _).drew
  rw [List.map_append, List.map_cons] at hm2
  obtain ⟨w3, hrun, hm3, ht3⟩ := (show PMap Tryz.prog 3 w2.drew m _ from hm2.block rfl).drop Tryz.underlying3 Tryz.underlying98 0
  simp only at hrun
  have hb3 : But (Foot s R m (a ++ n :: b)) w w3 := hb2.drew.trans (But.grown ht3.grown (.inr (.inl rfl)))
  have g2 : ∀ k, k ≠ m → k < w2.heap.size → w3.heap[k]? = w2.heap[k]? := fun k hk hl => ht3.grown.block k hl (by simpa using hk)
  have hfin : Sh fb rb w3 s R m most last (a ++ b) := by
    refine ⟨?_, ?_, ?_, ?_, ?_, ?_, hmm⟩
    · rw [← ec0]; exact hs2.block (g2 s hne.2.1 hs2.lt)
    · refine hr2.block fun k hk => g2 k ?_ (hr2.lt hk)
      rw [nd_blocks, List.mem_cons] at hk
      rcases hk with e | hk
      · rw [e]; exact fun e => hne.2.2.1 e.symm
      · obtain ⟨n', hn', e⟩ := List.mem_map.1 hk
        rw [← e]
        exact (hne.2.2.2 n' (mem_more hn')).2.1
    · rw [List.map_append]; exact hm3
    · exact fun n' hn' => (h.rows n' (mem_more hn')).block fun g cur hg _ => hb3.block g (by rcases hg with hg | hg <;> exact (Array.getElem?_eq_some_iff.1 hg).1) (by
        rcases hg with hg | hg
        · exact h.off hg (by decide) (by decide)
        · exact h.off hg (by decide) (by decide))
    · exact fun k hk => h.base k (by
        rcases hk with e | e | e | hk
        · exact .inl e
        · exact .inr (.inl e)
        · exact .inr (.inr (.inl e))
        · refine .inr (.inr (.inr ?_))
          rw [List.map_append] at hk ⊢
          exact mem_more hk)
    · rw [← ec0]; omega
  have x4 : w2.cell? ⟨s, 4, none⟩ = some (.map (some m)) := hs2.cell 4
  have x0 : w2.cell? ⟨n.b, 0, none⟩ = some (.int .i64 n.x.id) := hn2.cell 0
  have hsub : (c1 : Int) - (cn : Int) = (c0 : Int) := by omega
  have hwr : IntKind.i64.wrap ((c1 : Int) - (cn : Int)) = (c0 : Int) := by rw [hsub, IntKind.wrap_i64]; omega
  clear hsub
  have HE := Lib.hid ew2
  clear ew2 ew hout hpb hqb hat hpm hqm hnd hr1 hm1 hb1 hs1 hn1 ec1 ec0 hfp hfq hb2 hm2 hr2 hs2 hn2 ht3 g2 hp1 hq1 hm3 hne hc1 hrm h ep eq hsp hsq hmp hmq
  go_enter Tryz.func99, Tryz.ntmps99
  go_wp2_with fail
  refine hC.mono ?_
  rintro e w' ⟨rfl, rfl⟩
  go_wp2_with fail
  go_region_with (fail)
  all_goals
    rw [← HE.out]
    go_wp2_with fail
    go_region_with (fail)
    all_goals
      go_wp2
      go_end0
      exact ⟨rfl, hfin, hb3⟩
end Go.Proofs.YtahapblgmehngaaGreatDoor

