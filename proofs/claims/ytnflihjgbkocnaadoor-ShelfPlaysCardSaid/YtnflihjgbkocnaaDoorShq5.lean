
/- The walks of layer 19: Put, Forget, Len. -/
import Derived.Test.YtnflihjgbkocnaaDoorShq3
import Derived.Test.YtnflihjgbkocnaaDoorShq4
import Derived.Deep.RegionWith
namespace Go.Proofs.YtnflihjgbkocnaaDoor
open Go.RowKit Go.Dr

set_option linter.unusedSimpArgs false in
set_option linter.unusedVariables false in
set_option linter.unnecessarySimpa false in
theorem enter_of {f : FuncId} {fn : Func} {c : Code} (hf : Tryd.prog.funcs[f]? = some fn) (hname : (fn.name == "runtime.NumGoroutine") = false) (hb : fn.body = some c) (args : Array Value) (w : World) :
    (callFunc f args).run Tryd.prog w = .ok (.enter f args) w := by
  have h1 : fn.name ≠ "runtime.NumGoroutine" := by simpa using hname
  simp [callFunc, hf, h1, hb]

set_option linter.unusedSimpArgs false in
set_option linter.unusedVariables false in
set_option linter.unnecessarySimpa false in
theorem Sh.last {fb rb : Nat} {w : World} {s R m : Nat} {most last : Int} {l : List Nd} (h : Sh fb rb w s R m most last l) (z : Int) : Sh fb rb (w.setCell ⟨s, 2, none⟩ (.int .i64 z)) s R m most z l where
  blk := by
    have := h.blk.set 2 (.int .i64 z)
    simpa using this
  ring := h.ring.block fun k hk => Below.heap_setCell w ⟨s, 2, none⟩ _ k (by
    rw [nd_blocks, List.mem_cons] at hk
    rcases hk with e | hk
    · rw [e]; exact fun e => h.ne_s.1 e.symm
    · obtain ⟨n, hn, e⟩ := List.mem_map.1 hk
      rw [← e]; exact (h.ne_s.2.2.2 n hn).1)
  map := h.map.block (Below.heap_setCell w ⟨s, 2, none⟩ _ m fun e => h.ne_s.2.1 e.symm)
  rows := fun n hn => (h.rows n hn).block fun g cur hg _ => Below.heap_setCell w ⟨s, 2, none⟩ _ g fun e => by
    have := h.blk
    unfold Blk at this
    subst e
    rw [this] at hg
    simp at hg
  base := h.base
  room := h.room
  most1 := h.most1

/-- Of the same key, with the same picked. -/
def alikeP (key : Bytes) (lp : List F) (n : Nd) : Bool := n.x.key == key && n.x.lp == lp

set_option linter.unusedSimpArgs false in
set_option linter.unusedVariables false in
set_option linter.unnecessarySimpa false in
set_option maxRecDepth 100000 in
set_option maxHeartbeats 2000000 in
theorem sweepPut (fb rb s R m : Nat) (most last : Int) (l : List Nd) (w : World) (h : Sh fb rb w s R m most last l) (hlen : l.length ≤ 1048576) (G : Nat) (q : En) (lp : List F) (hG : Blk w G 36 #[S q.key, q.vp, .int .i64 q.st, q.vf, S q.body, .int .i64 q.asked, .int .i64 q.came]) (hp : ∀ w', But (Foot s R m l) w w' → Fs w'.heap.size w' q.vp lp) :
    Calls Tryd.prog 23 #[Ptr s, .func (.func 24) #[] #[Ptr G]] w fun e w' => e = .returned (.int .i64 ((l.filter (alikeP q.key lp)).length : Nat)) ∧ Sh fb rb w' s R m most last (l.filter (fun n => !alikeP q.key lp n)) ∧ But (Foot s R m l) w w' := by
  have hGo : ¬ Foot s R m l G := h.off hG (by decide) (by decide)
  refine sweep_any fb rb s R m most last l w h hlen _ (enter_of Tryd.func24 (by kernel_rfl) rfl) #[Ptr G] (alikeP q.key lp) (fun _ wa => But (Foot s R m l) w wa) (But.refl _ _) ?_ fun _ dn wa wb h1 h2 => h1.trans h2
  intro dn n rs wa hl hs hj
  refine (put1_any n G q lp wa (hG.but hj hGo) (Fs.own (hs.rows n (by simp)).1) (hp wa hj)).mono ?_
  rintro e wb ⟨rfl, hb⟩
  exact ⟨rfl, hs.below hb, hj.trans (But.of_below hb)⟩

set_option linter.unusedSimpArgs false in
set_option linter.unusedVariables false in
set_option linter.unnecessarySimpa false in
theorem sweepForget (fb rb s R m : Nat) (most last : Int) (l : List Nd) (w : World) (h : Sh fb rb w s R m most last l) (hlen : l.length ≤ 1048576) (G : Nat) (k : Bytes) (hG : Blk w G 9 #[S k]) :
    Calls Tryd.prog 23 #[Ptr s, .func (.func 38) #[] #[Ptr G]] w fun e w' => e = .returned (.int .i64 ((l.filter (fun n => n.x.key == k)).length : Nat)) ∧ Sh fb rb w' s R m most last (l.filter (fun n => !(n.x.key == k))) ∧ But (Foot s R m l) w w' := by
  have hGo : ¬ Foot s R m l G := h.off hG (by decide) (by decide)
  refine sweep_any fb rb s R m most last l w h hlen _ (enter_of Tryd.func38 (by kernel_rfl) rfl) #[Ptr G] (fun n => n.x.key == k) (fun _ wa => But (Foot s R m l) w wa) (But.refl _ _) ?_ fun _ dn wa wb h1 h2 => h1.trans h2
  intro dn n rs wa hl hs hj
  refine (forget1_any n G k wa (hG.but hj hGo)).mono ?_
  rintro e wb ⟨rfl, hb⟩
  exact ⟨rfl, hs.below hb, hj.trans (But.of_below hb)⟩

set_option linter.unusedSimpArgs false in
set_option linter.unusedVariables false in
set_option linter.unnecessarySimpa false in
theorem Sh.length_le {fb rb : Nat} {w : World} {s R m : Nat} {most last : Int} {l : List Nd} (h : Sh fb rb w s R m most last l) : l.length ≤ 16384 := by
  have h1 := h.room
  have h2 := h.most1
  have h3 := costs_len (l.map Nd.x)
  rw [List.length_map] at h3
  omega

set_option linter.unusedSimpArgs false in
set_option linter.unusedVariables false in
set_option linter.unnecessarySimpa false in
set_option maxRecDepth 100000 in
set_option maxHeartbeats 2000000 in
theorem Forget_any (fb rb s R m : Nat) (most last : Int) (l : List Nd) (w : World) (h : Sh fb rb w s R m most last l) (k : Bytes) :
    Calls Tryd.prog 16 #[Ptr s, S k] w fun e w' => e = .returned (.int .i64 ((l.filter (fun n => n.x.key == k)).length : Nat)) ∧ Sh fb rb w' s R m most last (l.filter (fun n => !(n.x.key == k))) ∧ But (Foot s R m l) w w' := by
  obtain ⟨w0, ew⟩ : ∃ w0 : World, w0 = w.alloc (.cells #[S k] 9) := ⟨_, rfl⟩
  have hb0 : Below w.heap.size w w0 := by rw [ew]; exact (Below.refl _ _).alloc (Nat.le_refl _) _
  have hG : Blk w0 w.heap.size 9 #[S k] := by rw [ew]; exact Blk.new _ _ _
  have hs0 := h.below hb0
  have hC := sweepForget fb rb s R m most last l w0 hs0 (by have := h.length_le; omega) w.heap.size k hG
  obtain ⟨c, ec⟩ : ∃ c, c = (l.filter (fun n => n.x.key == k)).length := ⟨_, rfl⟩
  rw [← ec] at hC ⊢
  clear ec
  have hmf : ∀ (fn : Fn) (first cap : Array Value) (w : World), (Instr.makeFunc fn first cap).run Tryd.prog w = .ok (.func fn first cap) w := fun _ _ _ _ => rfl
  go_enter Tryd.func16, Tryd.ntmps16
  go_upto_region 3 with fail
  rw [← ew]
  clear ew
  go_wp2_with fail
  refine hC.mono ?_
  rintro e w1 ⟨rfl, hs1, hb1⟩
  go_wp2
  go_ret
  exact ⟨rfl, hs1, (But.of_below hb0).trans hb1⟩

set_option linter.unusedSimpArgs false in
set_option linter.unusedVariables false in
set_option linter.unnecessarySimpa false in
theorem Len_any (fb rb s R m : Nat) (most last : Int) (l : List Nd) (w : World) (h : Sh fb rb w s R m most last l) :
    Calls Tryd.prog 40 #[Ptr s] w fun e w' => e = .returned (.int .i64 (l.length : Nat)) ∧ w' = w := by
  have x4 : w.cell? ⟨s, 4, none⟩ = some (.map (some m)) := h.blk.cell 4
  have hlen := h.map.len (t := 58) Tryd.underlying58 3
  rw [List.length_map] at hlen
  go_enter Tryd.func40, Tryd.ntmps40
  go_wp2
  go_ret
  exact ⟨rfl, rfl⟩

set_option linter.unusedSimpArgs false in
set_option linter.unusedVariables false in
set_option linter.unnecessarySimpa false in
set_option maxRecDepth 100000 in
set_option maxHeartbeats 4000000 in
theorem Put_any (fb rb s R m : Nat) (most last : Int) (l : List Nd) (q : En) (lp lf : List F) (w : World) (h : Sh fb rb w s R m most last l) (hfb : fb ≤ w.heap.size) (hrb : rb ≤ w.heap.size) (hp : ∀ w', But (Foot s R m l) w w' → Fs w'.heap.size w' q.vp lp) (hf : ∀ w', But (Foot s R m l) w w' → Fs w'.heap.size w' q.vf lf)
    (hk : q.key.length ≤ 1099511627776) (hb : q.body.length ≤ 1099511627776) (hl : fsum lp ≤ 1099511627776) (hl2 : fsum lf ≤ 1099511627776) (hid : ∀ n ∈ l, n.x.id ≤ last) (hla : 0 ≤ last ∧ last ≤ 4611686018427387904) (M : Nat) (hM : most = (M : Int)) (hc : costF q lp lf ≤ M) :
    Calls Tryd.prog 9 #[Ptr s, q.val] w fun e w' => e = .returned (.tuple #[.int .i64 (last + 1), .int .i64 0]) ∧ ∃ nd : Nd, nd.x = It.of (last + 1) q lp lf ∧ w.heap.size ≤ nd.b ∧ Sh fb rb w' s R m most (last + 1) (roomOf (M - costF q lp lf) (l.filter (fun n => !alikeP q.key lp n)) ++ [nd]) ∧ But (Foot s R m l) w w' := by
  obtain ⟨w0, ew⟩ : ∃ w0 : World, w0 = w.alloc (.cells #[S q.key, q.vp, .int .i64 q.st, q.vf, S q.body, .int .i64 q.asked, .int .i64 q.came] 36) := ⟨_, rfl⟩
  have hb0 : Below w.heap.size w w0 := by rw [ew]; exact (Below.refl _ _).alloc (Nat.le_refl _) _
  have hG : Blk w0 w.heap.size 36 #[S q.key, q.vp, .int .i64 q.st, q.vf, S q.body, .int .i64 q.asked, .int .i64 q.came] := by rw [ew]; exact Blk.new _ _ _
  have hs0 := h.below hb0
  have hlen := h.length_le
  have hGo : ¬ Foot s R m l w.heap.size := hs0.off hG (by decide) (by decide)
  have hC := sweepPut fb rb s R m most last l w0 hs0 (by omega) w.heap.size q lp hG fun w' hb => hp w' ((But.of_below hb0).trans hb)
  have hsub : ∀ n ∈ l.filter (fun n => !alikeP q.key lp n), n ∈ l := fun n hn => (List.mem_filter.1 hn).1
  obtain ⟨c, ec⟩ : ∃ c, c = (l.filter (alikeP q.key lp)).length := ⟨_, rfl⟩
  rw [← ec] at hC
  clear ec
  obtain ⟨l2, el⟩ : ∃ l2, l2 = l.filter (fun n => !alikeP q.key lp n) := ⟨_, rfl⟩
  rw [← el] at hC hsub ⊢
  clear el
  have HL := Lib.hid (fun (w1 : World) (hs : Sh fb rb w1 s R m most last l2) h1 h2 h3 h4 h5 => lay_any fb rb s R m most last l2 (last + 1) q lp lf w1 hs h1 h2 h3 h4 hk hb hl hl2 (fun n hn => by have := hid n (hsub n hn); omega) h5 M hM hc)
  have hwf : (Lit.int .i64 (last + 1)).wf = true := by
    simp [Lit.wf, IntKind.min, IntKind.max, IntKind.signed, IntKind.bits]
    omega
  have hwr : IntKind.i64.wrap (last + 1) = last + 1 := by rw [IntKind.wrap_i64]; omega
  have hmf : ∀ (fn : Fn) (first cap : Array Value) (w : World), (Instr.makeFunc fn first cap).run Tryd.prog w = .ok (.func fn first cap) w := fun _ _ _ _ => rfl
  obtain ⟨key, vp, st, vf, body, asked, came⟩ := q
  simp only [En.val] at *
  obtain ⟨kc, ekc⟩ : ∃ kc, kc = costF ⟨key, vp, st, vf, body, asked, came⟩ lp lf := ⟨_, rfl⟩
  rw [← ekc] at HL ⊢
  clear ekc hc
  go_enter Tryd.func9, Tryd.ntmps9
  go_upto_region 3 with fail
  rw [← ew]
  clear ew
  go_wp2_with fail
  refine hC.mono ?_
  rintro e w1 ⟨rfl, hs1, hb1⟩
  have hG1 := hG.but hb1 hGo
  have hw1 := (But.of_below (S := Foot s R m l) hb0).trans hb1
  have x2 : w1.cell? ⟨s, 2, none⟩ = some (.int .i64 last) := hs1.blk.cell 2
  (have y0 : w1.cell? ⟨w.heap.size, 0, none⟩ = some (S key) := hG1.cell 0; have y1 : w1.cell? ⟨w.heap.size, 1, none⟩ = some (vp) := hG1.cell 1; have y2 : w1.cell? ⟨w.heap.size, 2, none⟩ = some (.int .i64 st) := hG1.cell 2; have y3 : w1.cell? ⟨w.heap.size, 3, none⟩ = some (vf) := hG1.cell 3; have y4 : w1.cell? ⟨w.heap.size, 4, none⟩ = some (S body) := hG1.cell 4; have y5 : w1.cell? ⟨w.heap.size, 5, none⟩ = some (.int .i64 asked) := hG1.cell 5; have y6 : w1.cell? ⟨w.heap.size, 6, none⟩ = some (.int .i64 came) := hG1.cell 6)
  have hsd := hs1.drew
  clear hs0 hC hG hG1 hb0 hb1
  go_wp2_with fail
  go_region_with (first
    | (go_at_call 26; refine (HL.out w1.drew hsd (Nat.le_trans hfb hw1.size) (Nat.le_trans hrb hw1.size) (fun w' hb => hp w' (hw1.drew.trans (hb.more fun k hk => foot_more hsub hk))) (fun w' hb => hf w' (hw1.drew.trans (hb.more fun k hk => foot_more hsub hk))) hwf).mono ?_; rintro e w2 ⟨rfl, nd, hnx, hnb, hs2, hb2⟩))
  all_goals
    have z2 : w2.cell? ⟨s, 2, none⟩ = some (.int .i64 last) := hs2.blk.cell 2
    have g2 := hs2.blk.free 2
    have hs3 := hs2.last (last + 1)
    have hb3 := ((hw1.drew.trans (hb2.more fun k hk => foot_more hsub hk)).setCell (p := ⟨s, 2, none⟩) (.inl (.inl rfl)) (.int .i64 (last + 1)))
    have hww := hw1.size
    clear hs2 hb2 hw1 hsd x2
    go_wp2
    go_ret2
    exact ⟨rfl, nd, hnx, Nat.le_trans hww hnb, hs3, hb3⟩

set_option linter.unusedSimpArgs false in
set_option linter.unusedVariables false in
set_option linter.unnecessarySimpa false in
set_option maxRecDepth 100000 in
set_option maxHeartbeats 4000000 in
theorem Put_long (fb rb s R m : Nat) (most last : Int) (l : List Nd) (q : En) (lp lf : List F) (w : World) (h : Sh fb rb w s R m most last l) (hp : ∀ w', But (Foot s R m l) w w' → Fs w'.heap.size w' q.vp lp) (hf : ∀ w', But (Foot s R m l) w w' → Fs w'.heap.size w' q.vf lf)
    (hk : q.key.length ≤ 1099511627776) (hb : q.body.length ≤ 1099511627776) (hl : fsum lp ≤ 1099511627776) (hl2 : fsum lf ≤ 1099511627776) (hla : 0 ≤ last ∧ last ≤ 4611686018427387904) (hc : most < (costF q lp lf : Nat)) :
    Calls Tryd.prog 9 #[Ptr s, q.val] w fun e w' => e = .returned (.tuple #[.int .i64 0, .int .i64 2]) ∧ Sh fb rb w' s R m most last (l.filter (fun n => !alikeP q.key lp n)) ∧ But (Foot s R m l) w w' := by
  obtain ⟨w0, ew⟩ : ∃ w0 : World, w0 = w.alloc (.cells #[S q.key, q.vp, .int .i64 q.st, q.vf, S q.body, .int .i64 q.asked, .int .i64 q.came] 36) := ⟨_, rfl⟩
  have hb0 : Below w.heap.size w w0 := by rw [ew]; exact (Below.refl _ _).alloc (Nat.le_refl _) _
  have hG : Blk w0 w.heap.size 36 #[S q.key, q.vp, .int .i64 q.st, q.vf, S q.body, .int .i64 q.asked, .int .i64 q.came] := by rw [ew]; exact Blk.new _ _ _
  have hs0 := h.below hb0
  have hlen := h.length_le
  have hGo : ¬ Foot s R m l w.heap.size := hs0.off hG (by decide) (by decide)
  have hC := sweepPut fb rb s R m most last l w0 hs0 (by omega) w.heap.size q lp hG fun w' hb => hp w' ((But.of_below hb0).trans hb)
  have hsub : ∀ n ∈ l.filter (fun n => !alikeP q.key lp n), n ∈ l := fun n hn => (List.mem_filter.1 hn).1
  obtain ⟨c, ec⟩ : ∃ c, c = (l.filter (alikeP q.key lp)).length := ⟨_, rfl⟩
  rw [← ec] at hC
  clear ec
  obtain ⟨l2, el⟩ : ∃ l2, l2 = l.filter (fun n => !alikeP q.key lp n) := ⟨_, rfl⟩
  rw [← el] at hC hsub ⊢
  clear el
  have HL := Lib.hid (fun (w1 : World) (hs : Sh fb rb w1 s R m most last l2) h1 h2 => lay_long fb rb s R m most last l2 (last + 1) q lp lf w1 hs h1 h2 hk hb hl hl2 hc)
  have hwr : IntKind.i64.wrap (last + 1) = last + 1 := by rw [IntKind.wrap_i64]; omega
  have hmf : ∀ (fn : Fn) (first cap : Array Value) (w : World), (Instr.makeFunc fn first cap).run Tryd.prog w = .ok (.func fn first cap) w := fun _ _ _ _ => rfl
  obtain ⟨key, vp, st, vf, body, asked, came⟩ := q
  simp only [En.val] at *
  clear hc
  go_enter Tryd.func9, Tryd.ntmps9
  go_upto_region 3 with fail
  rw [← ew]
  clear ew
  go_wp2_with fail
  refine hC.mono ?_
  rintro e w1 ⟨rfl, hs1, hb1⟩
  have hG1 := hG.but hb1 hGo
  have hw1 := (But.of_below (S := Foot s R m l) hb0).trans hb1
  have x2 : w1.cell? ⟨s, 2, none⟩ = some (.int .i64 last) := hs1.blk.cell 2
  (have y0 : w1.cell? ⟨w.heap.size, 0, none⟩ = some (S key) := hG1.cell 0; have y1 : w1.cell? ⟨w.heap.size, 1, none⟩ = some (vp) := hG1.cell 1; have y2 : w1.cell? ⟨w.heap.size, 2, none⟩ = some (.int .i64 st) := hG1.cell 2; have y3 : w1.cell? ⟨w.heap.size, 3, none⟩ = some (vf) := hG1.cell 3; have y4 : w1.cell? ⟨w.heap.size, 4, none⟩ = some (S body) := hG1.cell 4; have y5 : w1.cell? ⟨w.heap.size, 5, none⟩ = some (.int .i64 asked) := hG1.cell 5; have y6 : w1.cell? ⟨w.heap.size, 6, none⟩ = some (.int .i64 came) := hG1.cell 6)
  have hsd := hs1.drew
  clear hs0 hC hG hG1 hb0 hb1
  go_wp2_with fail
  go_region_with (first
    | (go_at_call 26; refine (HL.out w1.drew hsd (hp _ hw1.drew) (hf _ hw1.drew)).mono ?_; rintro e w2 ⟨rfl, hb2⟩))
  all_goals
    have hs3 := hsd.below hb2
    have hb3 := hw1.drew.trans (But.of_below hb2)
    clear hb2 hw1 hsd x2
    go_wp2
    go_ret2
    exact ⟨rfl, hs3, hb3⟩
end Go.Proofs.YtnflihjgbkocnaaDoor
