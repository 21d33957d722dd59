
/- The shelf: another entry in an entry's place. -/
import Derived.Test.YtnflihjgbkocnaaDoorShq6
namespace Go.Proofs.YtnflihjgbkocnaaDoor
open Go.RowKit Go.Dr

set_option linter.unusedSimpArgs false in
set_option linter.unusedVariables false in
set_option linter.unnecessarySimpa false in
set_option maxRecDepth 100000 in
set_option maxHeartbeats 4000000 in
theorem Set_some (fb rb s R m : Nat) (most last : Int) (a b : List Nd) (n : Nd) (q : En) (lp lf : List F) (w : World) (h : Sh fb rb w s R m most last (a ++ n :: b)) (hfb : fb ≤ w.heap.size) (hrb : rb ≤ w.heap.size) (hp : ∀ w', But (Foot s R m (a ++ n :: b)) w w' → Fs w'.heap.size w' q.vp lp) (hf : ∀ w', But (Foot s R m (a ++ n :: b)) w w' → Fs w'.heap.size w' q.vf lf)
    (hk : q.key.length ≤ 1099511627776) (hb : q.body.length ≤ 1099511627776) (hl : fsum lp ≤ 1099511627776) (hl2 : fsum lf ≤ 1099511627776) (hw : (Lit.int .i64 n.x.id).wf = true) (M : Nat) (hM : most = (M : Int)) (hc : costF q lp lf ≤ M) :
    Calls Tryd.prog 14 #[Ptr s, .int .i64 n.x.id, q.val] w fun e w' => e = .returned (.int .i64 0) ∧ ∃ nd : Nd, nd.x = It.of n.x.id q lp lf ∧ w.heap.size ≤ nd.b ∧ Sh fb rb w' s R m most last (roomOf (M - costF q lp lf) (a ++ b) ++ [nd]) ∧ But (Foot s R m (a ++ n :: b)) w w' := by
  obtain ⟨w0, ew⟩ : ∃ w0 : World, w0 = w.alloc (.cells #[S q.key, q.vp, .int .i64 q.st, q.vf, S q.body, .int .i64 q.asked, .int .i64 q.came] 36) := ⟨_, rfl⟩
  have hb0 : Below w.heap.size w w0 := by rw [ew]; exact (Below.refl _ _).alloc (Nat.le_refl _) _
  have hG : Blk w0 w.heap.size 36 #[S q.key, q.vp, .int .i64 q.st, q.vf, S q.body, .int .i64 q.asked, .int .i64 q.came] := by rw [ew]; exact Blk.new _ _ _
  have hs0 := h.below hb0
  have hGo : ¬ Foot s R m (a ++ n :: b) w.heap.size := hs0.off hG (by decide) (by decide)
  have x4 : w0.cell? ⟨s, 4, none⟩ = some (.map (some m)) := hs0.blk.cell 4
  have hlk : (Instr.lookup 58 (.map (some m)) (.int .i64 n.x.id) true).run Tryd.prog w0 = .ok (.tuple #[Ptr n.b, .bool true]) w0 := by
    rcases hs0.map.look (t := 58) Tryd.underlying3 Tryd.underlying58 (zeroLink w0) n.x.id hw with ⟨g, hm, e⟩ | ⟨hn, -⟩
    · obtain ⟨n', hn', e'⟩ := List.mem_map.1 hm
      have h1 : n'.x.id = n.x.id := congrArg Prod.fst e'
      have h2 : n'.b = g := congrArg Prod.snd e'
      have : n' = n := nd_one hs0.ids hn' (by simp) h1
      rw [e, ← h2, this]
    · exact absurd rfl (hn (n.x.id, n.b) (by simp))
  have hsub : ∀ k ∈ a ++ b, k ∈ a ++ n :: b := by
    intro k hk
    rcases List.mem_append.1 hk with hk | hk
    · exact List.mem_append_left _ hk
    · exact List.mem_append_right _ (List.mem_cons_of_mem _ hk)
  have hne : ∀ k ∈ a ++ b, k.x.id ≠ n.x.id := by
    intro k hk e
    have hids := hs0.ids
    rw [List.map_append, List.map_cons, List.nodup_append] at hids
    obtain ⟨h1, h2, h3⟩ := hids
    rw [List.nodup_cons] at h2
    rcases List.mem_append.1 hk with hk | hk
    · exact h3 k.x.id (List.mem_map.2 ⟨k, hk, rfl⟩) n.x.id (by simp) e
    · exact h2.1 (e ▸ List.mem_map.2 ⟨k, hk, rfl⟩)
  have hD := drop_any fb rb s R m most last a b n w0 hs0
  have HL := Lib.hid (fun (w1 : World) (hs : Sh fb rb w1 s R m most last (a ++ b)) h1 h2 h3 h4 => lay_any fb rb s R m most last (a ++ b) n.x.id q lp lf w1 hs h1 h2 h3 h4 hk hb hl hl2 hne hw M hM hc)
  obtain ⟨key, vp, st, vf, body, asked, came⟩ := q
  simp only [En.val] at *
  obtain ⟨kc, ekc⟩ : ∃ kc, kc = costF ⟨key, vp, st, vf, body, asked, came⟩ lp lf := ⟨_, rfl⟩
  rw [← ekc] at HL ⊢
  clear ekc hc
  clear hs0
  go_enter Tryd.func14, Tryd.ntmps14
  go_upto_region 1 with fail
  rw [← ew]
  clear ew
  go_wp2_with fail
  refine hD.mono ?_
  rintro e w1 ⟨rfl, hs1, hb1⟩
  have hG1 := hG.but hb1 hGo
  have hw1 := (But.of_below (S := Foot s R m (a ++ n :: b)) hb0).trans hb1
  (have y0 : w1.cell? ⟨w.heap.size, 0, none⟩ = some (S key) := hG1.cell 0; have y1 : w1.cell? ⟨w.heap.size, 1, none⟩ = some (vp) := hG1.cell 1; have y2 : w1.cell? ⟨w.heap.size, 2, none⟩ = some (.int .i64 st) := hG1.cell 2; have y3 : w1.cell? ⟨w.heap.size, 3, none⟩ = some (vf) := hG1.cell 3; have y4 : w1.cell? ⟨w.heap.size, 4, none⟩ = some (S body) := hG1.cell 4; have y5 : w1.cell? ⟨w.heap.size, 5, none⟩ = some (.int .i64 asked) := hG1.cell 5; have y6 : w1.cell? ⟨w.heap.size, 6, none⟩ = some (.int .i64 came) := hG1.cell 6)
  clear hD hG hG1 hlk x4
  go_wp2_with fail
  refine (HL.out w1 hs1 (Nat.le_trans hfb hw1.size) (Nat.le_trans hrb hw1.size) (fun w' hb => hp w' (hw1.trans (hb.more fun k hk => foot_more hsub hk))) (fun w' hb => hf w' (hw1.trans (hb.more fun k hk => foot_more hsub hk)))).mono ?_
  rintro e w2 ⟨rfl, nd, hnx, hnb, hs2, hb2⟩
  have hb3 := hw1.trans (hb2.more fun k hk => foot_more hsub hk)
  have hww := hw1.size
  clear hb2 hw1 hs1
  go_wp2
  go_ret
  exact ⟨rfl, nd, hnx, Nat.le_trans hww hnb, hs2, hb3⟩

set_option linter.unusedSimpArgs false in
set_option linter.unusedVariables false in
set_option linter.unnecessarySimpa false in
set_option maxRecDepth 100000 in
set_option maxHeartbeats 4000000 in
theorem Set_long (fb rb s R m : Nat) (most last : Int) (a b : List Nd) (n : Nd) (q : En) (lp lf : List F) (w : World) (h : Sh fb rb w s R m most last (a ++ n :: b)) (hfb : fb ≤ w.heap.size) (hrb : rb ≤ w.heap.size) (hp : ∀ w', But (Foot s R m (a ++ n :: b)) w w' → Fs w'.heap.size w' q.vp lp) (hf : ∀ w', But (Foot s R m (a ++ n :: b)) w w' → Fs w'.heap.size w' q.vf lf)
    (hk : q.key.length ≤ 1099511627776) (hb : q.body.length ≤ 1099511627776) (hl : fsum lp ≤ 1099511627776) (hl2 : fsum lf ≤ 1099511627776) (hw : (Lit.int .i64 n.x.id).wf = true) (hc : most < (costF q lp lf : Nat)) :
    Calls Tryd.prog 14 #[Ptr s, .int .i64 n.x.id, q.val] w fun e w' => e = .returned (.int .i64 2) ∧ Sh fb rb w' s R m most last (a ++ b) ∧ But (Foot s R m (a ++ n :: b)) w w' := by
  obtain ⟨w0, ew⟩ : ∃ w0 : World, w0 = w.alloc (.cells #[S q.key, q.vp, .int .i64 q.st, q.vf, S q.body, .int .i64 q.asked, .int .i64 q.came] 36) := ⟨_, rfl⟩
  have hb0 : Below w.heap.size w w0 := by rw [ew]; exact (Below.refl _ _).alloc (Nat.le_refl _) _
  have hG : Blk w0 w.heap.size 36 #[S q.key, q.vp, .int .i64 q.st, q.vf, S q.body, .int .i64 q.asked, .int .i64 q.came] := by rw [ew]; exact Blk.new _ _ _
  have hs0 := h.below hb0
  have hGo : ¬ Foot s R m (a ++ n :: b) w.heap.size := hs0.off hG (by decide) (by decide)
  have x4 : w0.cell? ⟨s, 4, none⟩ = some (.map (some m)) := hs0.blk.cell 4
  have hlk : (Instr.lookup 58 (.map (some m)) (.int .i64 n.x.id) true).run Tryd.prog w0 = .ok (.tuple #[Ptr n.b, .bool true]) w0 := by
    rcases hs0.map.look (t := 58) Tryd.underlying3 Tryd.underlying58 (zeroLink w0) n.x.id hw with ⟨g, hm, e⟩ | ⟨hn, -⟩
    · obtain ⟨n', hn', e'⟩ := List.mem_map.1 hm
      have h1 : n'.x.id = n.x.id := congrArg Prod.fst e'
      have h2 : n'.b = g := congrArg Prod.snd e'
      have : n' = n := nd_one hs0.ids hn' (by simp) h1
      rw [e, ← h2, this]
    · exact absurd rfl (hn (n.x.id, n.b) (by simp))
  have hsub : ∀ k ∈ a ++ b, k ∈ a ++ n :: b := by
    intro k hk
    rcases List.mem_append.1 hk with hk | hk
    · exact List.mem_append_left _ hk
    · exact List.mem_append_right _ (List.mem_cons_of_mem _ hk)
  have hD := drop_any fb rb s R m most last a b n w0 hs0
  have HL := Lib.hid (fun (w1 : World) (hs : Sh fb rb w1 s R m most last (a ++ b)) h1 h2 => lay_long fb rb s R m most last (a ++ b) n.x.id q lp lf w1 hs h1 h2 hk hb hl hl2 hc)
  obtain ⟨key, vp, st, vf, body, asked, came⟩ := q
  simp only [En.val] at *
  clear hc
  clear hs0
  go_enter Tryd.func14, Tryd.ntmps14
  go_upto_region 1 with fail
  rw [← ew]
  clear ew
  go_wp2_with fail
  refine hD.mono ?_
  rintro e w1 ⟨rfl, hs1, hb1⟩
  have hG1 := hG.but hb1 hGo
  have hw1 := (But.of_below (S := Foot s R m (a ++ n :: b)) hb0).trans hb1
  (have y0 : w1.cell? ⟨w.heap.size, 0, none⟩ = some (S key) := hG1.cell 0; have y1 : w1.cell? ⟨w.heap.size, 1, none⟩ = some (vp) := hG1.cell 1; have y2 : w1.cell? ⟨w.heap.size, 2, none⟩ = some (.int .i64 st) := hG1.cell 2; have y3 : w1.cell? ⟨w.heap.size, 3, none⟩ = some (vf) := hG1.cell 3; have y4 : w1.cell? ⟨w.heap.size, 4, none⟩ = some (S body) := hG1.cell 4; have y5 : w1.cell? ⟨w.heap.size, 5, none⟩ = some (.int .i64 asked) := hG1.cell 5; have y6 : w1.cell? ⟨w.heap.size, 6, none⟩ = some (.int .i64 came) := hG1.cell 6)
  clear hD hG hG1 hlk x4
  go_wp2_with fail
  refine (HL.out w1 hs1 (hp _ hw1) (hf _ hw1)).mono ?_
  rintro e w2 ⟨rfl, hb2⟩
  have hs3 := hs1.below hb2
  have hb3 := hw1.trans (But.of_below hb2)
  clear hb2 hw1 hs1
  go_wp2
  go_ret
  exact ⟨rfl, hs3, hb3⟩

set_option linter.unusedSimpArgs false in
set_option linter.unusedVariables false in
set_option linter.unnecessarySimpa false in
set_option maxRecDepth 100000 in
set_option maxHeartbeats 4000000 in
theorem Set_none (fb rb s R m : Nat) (most last : Int) (l : List Nd) (q : En) (w : World) (h : Sh fb rb w s R m most last l) (i : Int) (hi : ∀ n ∈ l, n.x.id ≠ i) (hw : (Lit.int .i64 i).wf = true) :
    Calls Tryd.prog 14 #[Ptr s, .int .i64 i, q.val] w fun e w' => e = .returned (.int .i64 4) ∧ Below w.heap.size w w' := by
  obtain ⟨w0, ew⟩ : ∃ w0 : World, w0 = w.alloc (.cells #[S q.key, q.vp, .int .i64 q.st, q.vf, S q.body, .int .i64 q.asked, .int .i64 q.came] 36) := ⟨_, rfl⟩
  have hb0 : Below w.heap.size w w0 := by rw [ew]; exact (Below.refl _ _).alloc (Nat.le_refl _) _
  have hs0 := h.below hb0
  have x4 : w0.cell? ⟨s, 4, none⟩ = some (.map (some m)) := hs0.blk.cell 4
  have hlk : (Instr.lookup 58 (.map (some m)) (.int .i64 i) true).run Tryd.prog w0 = .ok (.tuple #[.pointer none, .bool false]) w0 := by
    rcases hs0.map.look (t := 58) Tryd.underlying3 Tryd.underlying58 (zeroLink w0) i hw with ⟨g, hm, e⟩ | ⟨hn, e⟩
    · obtain ⟨n', hn', e'⟩ := List.mem_map.1 hm
      exact absurd (congrArg Prod.fst e') (hi n' hn')
    · exact e
  clear h hs0
  obtain ⟨key, vp, st, vf, body, asked, came⟩ := q
  simp only [En.val] at *
  go_enter Tryd.func14, Tryd.ntmps14
  go_upto_region 1 with fail
  rw [← ew]
  clear ew
  go_wp2
  go_ret
  exact ⟨rfl, hb0⟩

set_option linter.unusedSimpArgs false in
set_option linter.unusedVariables false in
set_option linter.unnecessarySimpa false in
set_option maxRecDepth 100000 in
set_option maxHeartbeats 4000000 in
theorem New_bad (most : Int) (h : most < 0 ∨ 1048576 < most) (w : World) :
    Calls Tryd.prog 6 #[.int .i64 most] w fun e w' => e = .returned (.tuple #[.pointer none, .int .i64 1]) ∧ Below w.heap.size w w' := by
  rcases h with h | h
  · have t1 : decide (most < 0) = true := by simpa using h
    go_enter Tryd.func6, Tryd.ntmps6
    go_wp2
    go_ret2
    exact ⟨rfl, Below.refl _ _⟩
  · have t1 : decide (most < 0) = false := by simp; omega
    have t2 : decide ((1048576 : Int) < most) = true := by simpa using h
    go_enter Tryd.func6, Tryd.ntmps6
    go_wp2
    go_ret2
    exact ⟨rfl, Below.refl _ _⟩
end Go.Proofs.YtnflihjgbkocnaaDoor
