/- Parts of the proof of DealLacks_holds: the texts Shq4 Shq5. -/
import Derived.Deep.DeepCutAuto
import Derived.Deep.DrawnRows
import Derived.Laws.StructEq
import Derived.Deep.RegionWith
import Derived.Test.YtahapblgmehngaaGreatDoorC12
import Derived.Test.YtahapblgmehngaaGreatDoorC26
import Derived.Test.YtahapblgmehngaaGreatDoorC27
set_option linter.unusedSimpArgs false
set_option linter.unusedVariables false
set_option linter.unnecessarySimpa false
namespace Go.Proofs.YtahapblgmehngaaGreatDoor
open Go.RowKit Go.Dr

theorem structP : Tryz.prog.underlying 89 = some (.struct (Tryz.prog.fieldsOf 89)) := by kernel_rfl
theorem stoodP : Tryz.prog.stoodInHeld 89 = false := by kernel_rfl
theorem neqP (f g : F) (w : World) (c : Bool) (hc : c = !decide (f = g)) : (binOp .neq 89 (.agg #[S f.n, S f.v, .bool f.m]) (.agg #[S g.n, S g.v, .bool g.m])).run Tryz.prog w = .ok (.bool c) w := by
  subst hc
  rw [run_neq_struct, show (10000 : Nat) = 9999 + 1 from rfl, run_equalIn_agg w 9999 89 _ _ structP stoodP]
  simp only [Program.fieldsOf, Tryz.underlying89]
  go_simp
  obtain ⟨fn, fv, fm⟩ := f
  obtain ⟨gn, gv, gm⟩ := g
  by_cases h1 : fn = gn <;> by_cases h2 : fv = gv <;> by_cases h3 : fm = gm <;> simp [h1, h2, h3]

set_option maxRecDepth 100000 in
set_option maxHeartbeats 1000000 in
theorem EqualP_any (a b : List F) (va vb : Value) (w : World) (ha : Fs w.heap.size w va a) (hb : Fs w.heap.size w vb b) :
    Calls Tryz.prog 58 #[va, vb] w fun e w' => e = .returned (.bool (a == b)) ∧ Below w.heap.size w w' := by
  obtain ⟨pa, ca, rfl, hma⟩ := ha.form
  obtain ⟨pb, cb, rfl, hmb⟩ := hb.form
  by_cases hlen : a.length = b.length
  · have h2 : ((a.length : Int) != (b.length : Int)) = false := by simp [hlen]
    have HL := Lib.hid hlen
    clear hlen
    go_enter Tryz.func58, Tryz.ntmps58
    go_wp2
    go_loopw [13] (fun i wr => ∃ k : Nat, k ≤ a.length ∧ i = .int .i64 k ∧ Hid (a.take k = b.take k) ∧ Below w.heap.size w wr) (fun i _ => a.length - (intOf i).toNat)
    case atStart => exact ⟨0, Nat.zero_le _, rfl, rfl, Below.refl _ _⟩
    case round =>
      obtain ⟨k, hk, rfl, HT, hbel⟩ := hrel
      by_cases hlt : k < a.length
      · have hlt' : k < b.length := by rw [← HL.out]; exact hlt
        obtain ⟨ba, oa, rfl, hba, hca0, hca1, hca2⟩ := (ha.below hbel).at k hlt
        obtain ⟨bb, ob, rfl, hbb, hcb0, hcb1, hcb2⟩ := (hb.below hbel).at k hlt'
        by_cases he : a[k] = b[k]
        · have HN := Lib.hid (take_eq_succ hlt hlt' HT.out he)
          have hq := fun w => neqP a[k] b[k] w false (by simp [he])
          clear he
          go_wp2_with fail
          go_quiet (fail)
          go_wp2
          go_roundw
          case rel => exact ⟨k + 1, by omega, by go_num, HN, below_drewN hbel _⟩
          case measure => simp [intOf]; omega
        · have HN := Lib.hid (ne_of_get hlt hlt' he)
          have hq := fun w => neqP a[k] b[k] w true (by simp [he])
          clear he
          go_wp2_with fail
          go_quiet (fail)
          go_wp2
          go_ret
          exact ⟨ret_bool (by symm; rw [beq_eq_false_iff_ne]; exact HN.out), below_drewN hbel _⟩
      · go_wp2
        go_ret
        exact ⟨ret_bool (by symm; rw [beq_iff_eq]; have := HT.out; rwa [List.take_of_length_le (by omega), List.take_of_length_le (by rw [← HL.out]; omega)] at this), hbel⟩
  · have h2 : ((a.length : Int) != (b.length : Int)) = true := by simp; omega
    go_enter Tryz.func58, Tryz.ntmps58
    go_wp2
    go_ret
    exact ⟨ret_bool (by symm; rw [beq_eq_false_iff_ne]; intro e; exact hlen (by rw [e])), Below.refl _ _⟩

set_option maxRecDepth 100000 in
set_option maxHeartbeats 1000000 in
theorem put1_any (n : Nd) (G : Nat) (q : En) (lp : List F) (w : World) (hG : Blk w G 36 #[S q.key, q.vp, .int .i64 q.st, q.vf, S q.body, .int .i64 q.asked, .int .i64 q.came]) (hn : Fs w.heap.size w n.vp n.x.lp) (hp : Fs w.heap.size w q.vp lp) :
    Calls Tryz.prog 57 #[entV n, Ptr G] w fun e w' => e = .returned (.bool (n.x.key == q.key && n.x.lp == lp)) ∧ Below w.heap.size w w' := by
  obtain ⟨w0, ew⟩ : ∃ w0 : World, w0 = w.alloc (.cells #[S n.x.key, n.vp, .int .i64 n.x.st, n.vf, S n.x.body, .int .i64 n.x.asked, .int .i64 n.x.came] 36) := ⟨_, rfl⟩
  have hb0 : Below w.heap.size w w0 := by rw [ew]; exact (Below.refl _ _).alloc (Nat.le_refl _) _
  have hN : Blk w0 w.heap.size 36 #[S n.x.key, n.vp, .int .i64 n.x.st, n.vf, S n.x.body, .int .i64 n.x.asked, .int .i64 n.x.came] := by rw [ew]; exact Blk.new _ _ _
  have hG0 := hG.on hb0
  have x0 : w0.cell? ⟨w.heap.size, 0, none⟩ = some (S n.x.key) := hN.cell 0
  have x1 : w0.cell? ⟨w.heap.size, 1, none⟩ = some n.vp := hN.cell 1
  have y0 : w0.cell? ⟨G, 0, none⟩ = some (S q.key) := hG0.cell 0
  have y1 : w0.cell? ⟨G, 1, none⟩ = some q.vp := hG0.cell 1
  have hn0 := (hn.below hb0).mono hb0.size
  have hp0 := (hp.below hb0).mono hb0.size
  have HE := EqualP_any n.x.lp lp n.vp q.vp w0 hn0 hp0
  obtain ⟨c, ec⟩ : ∃ c, c = (n.x.lp == lp) := ⟨_, rfl⟩
  rw [← ec] at HE ⊢
  clear ec hn hp hn0 hp0 hG
  by_cases hk : n.x.key = q.key
  · have hr : (n.x.key == q.key) = true := by simp [hk]
    rw [hr, Bool.true_and]
    clear hk
    go_enter Tryz.func57, Tryz.ntmps57
    go_upto_region 1 with fail
    rw [← ew]
    clear ew
    go_wp2_with fail
    refine HE.mono ?_
    rintro e w1 ⟨rfl, hb1⟩
    go_wp2
    go_ret
    exact ⟨rfl, Bl.tr hb0 hb1⟩
  · have hr : (n.x.key == q.key) = false := by simp [hk]
    rw [hr, Bool.false_and]
    clear hk
    go_enter Tryz.func57, Tryz.ntmps57
    go_upto_region 1 with fail
    rw [← ew]
    clear ew
    go_wp2
    go_ret
    exact ⟨rfl, hb0⟩

end Go.Proofs.YtahapblgmehngaaGreatDoor

namespace Go.Proofs.YtahapblgmehngaaGreatDoor
open Go.RowKit Go.Dr

theorem enter_of {f : FuncId} {fn : Func} {c : Code} (hf : Tryz.prog.funcs[f]? = some fn) (hname : (fn.name == "runtime.NumGoroutine") = false) (hb : fn.body = some c) (args : Array Value) (w : World) :
    (callFunc f args).run Tryz.prog w = .ok (.enter f args) w := by
  have h1 : fn.name ≠ "runtime.NumGoroutine" := by simpa using hname
  simp [callFunc, hf, h1, hb]

theorem Sh.last {fb rb : Nat} {w : World} {s R m : Nat} {most last : Int} {l : List Nd} (h : Sh fb rb w s R m most last l) (z : Int) : Sh fb rb (w.setCell ⟨s, 2, none⟩ (.int .i64 z)) s R m most z l where
  blk := by
    have := h.blk.set 2 (.int .i64 z)
    simpa using this
  ring := h.ring.block fun k hk => Below.heap_setCell w ⟨s, 2, none⟩ _ k (by
    rw [nd_blocks, List.mem_cons] at hk
    rcases hk with e | hk
    · rw [e]; exact fun e => h.ne_s.1 e.symm
    · obtain ⟨n, hn, e⟩ := List.mem_map.1 hk
      rw [← e]; exact (h.ne_s.2.2.2 n hn).1)
  map := h.map.block (Below.heap_setCell w ⟨s, 2, none⟩ _ m fun e => h.ne_s.2.1 e.symm)
  rows := fun n hn => (h.rows n hn).block fun g cur hg _ => Below.heap_setCell w ⟨s, 2, none⟩ _ g fun e => by
    have := h.blk
    unfold Blk at this
    subst e
    rw [this] at hg
    simp at hg
  base := h.base
  room := h.room
  most1 := h.most1

/-- Of the same key, with the same picked. -/
def alikeP (key : Bytes) (lp : List F) (n : Nd) : Bool := n.x.key == key && n.x.lp == lp

set_option maxRecDepth 100000 in
set_option maxHeartbeats 2000000 in
theorem sweepPut (fb rb s R m : Nat) (most last : Int) (l : List Nd) (w : World) (h : Sh fb rb w s R m most last l) (hlen : l.length ≤ 1048576) (G : Nat) (q : En) (lp : List F) (hG : Blk w G 36 #[S q.key, q.vp, .int .i64 q.st, q.vf, S q.body, .int .i64 q.asked, .int .i64 q.came]) (hp : ∀ w', But (Foot s R m l) w w' → Fs w'.heap.size w' q.vp lp) :
    Calls Tryz.prog 56 #[Ptr s, .func (.func 57) #[] #[Ptr G]] w fun e w' => e = .returned (.int .i64 ((l.filter (alikeP q.key lp)).length : Nat)) ∧ Sh fb rb w' s R m most last (l.filter (fun n => !alikeP q.key lp n)) ∧ But (Foot s R m l) w w' := by
  have hGo : ¬ Foot s R m l G := h.off hG (by decide) (by decide)
  refine sweep_any fb rb s R m most last l w h hlen _ (enter_of Tryz.func57 (by kernel_rfl) rfl) #[Ptr G] (alikeP q.key lp) (fun _ wa => But (Foot s R m l) w wa) (But.refl _ _) ?_ fun _ dn wa wb h1 h2 => h1.trans h2
  intro dn n rs wa hl hs hj
  refine (put1_any n G q lp wa (hG.but hj hGo) (Fs.own (hs.rows n (by simp)).1) (hp wa hj)).mono ?_
  rintro e wb ⟨rfl, hb⟩
  exact ⟨rfl, hs.below hb, hj.trans (But.of_below hb)⟩

theorem Sh.length_le {fb rb : Nat} {w : World} {s R m : Nat} {most last : Int} {l : List Nd} (h : Sh fb rb w s R m most last l) : l.length ≤ 16384 := by
  have h1 := h.room
  have h2 := h.most1
  have h3 := costs_len (l.map Nd.x)
  rw [List.length_map] at h3
  omega

set_option maxRecDepth 100000 in
set_option maxHeartbeats 4000000 in
theorem Put_any (fb rb s R m : Nat) (most last : Int) (l : List Nd) (q : En) (lp lf : List F) (w : World) (h : Sh fb rb w s R m most last l) (hfb : fb ≤ w.heap.size) (hrb : rb ≤ w.heap.size) (hp : ∀ w', But (Foot s R m l) w w' → Fs w'.heap.size w' q.vp lp) (hf : ∀ w', But (Foot s R m l) w w' → Fs w'.heap.size w' q.vf lf)
    (hk : q.key.length ≤ 1099511627776) (hb : q.body.length ≤ 1099511627776) (hl : fsum lp ≤ 1099511627776) (hl2 : fsum lf ≤ 1099511627776) (hid : ∀ n ∈ l, n.x.id ≤ last) (hla : 0 ≤ last ∧ last ≤ 4611686018427387904) (M : Nat) (hM : most = (M : Int)) (hc : costF q lp lf ≤ M) :
    Calls Tryz.prog 28 #[Ptr s, q.val] w fun e w' => e = .returned (.tuple #[.int .i64 (last + 1), .int .i64 0]) ∧ ∃ nd : Nd, nd.x = It.of (last + 1) q lp lf ∧ w.heap.size ≤ nd.b ∧ Sh fb rb w' s R m most (last + 1) (roomOf (M - costF q lp lf) (l.filter (fun n => !alikeP q.key lp n)) ++ [nd]) ∧ But (Foot s R m l) w w' := by
  obtain ⟨w0, ew⟩ : ∃ w0 : World, w0 = w.alloc (.cells #[S q.key, q.vp, .int .i64 q.st, q.vf, S q.body, .int .i64 q.asked, .int .i64 q.came] 36) := ⟨_, rfl⟩
  have hb0 : Below w.heap.size w w0 := by rw [ew]; exact (Below.refl _ _).alloc (Nat.le_refl _) _
  have hG : Blk w0 w.heap.size 36 #[S q.key, q.vp, .int .i64 q.st, q.vf, S q.body, .int .i64 q.asked, .int .i64 q.came] := by rw [ew]; exact Blk.new _ _ _
  have hs0 := h.below hb0
  have hlen := h.length_le
  have hGo : ¬ Foot s R m l w.heap.size := hs0.off hG (by decide) (by decide)
  have hC := sweepPut fb rb s R m most last l w0 hs0 (by omega) w.heap.size q lp hG fun w' hb => hp w' ((But.of_below hb0).trans hb)
  have hsub : ∀ n ∈ l.filter (fun n => !alikeP q.key lp n), n ∈ l := fun n hn => (List.mem_filter.1 hn).1
  obtain ⟨c, ec⟩ : ∃ c, c = (l.filter (alikeP q.key lp)).length := ⟨_, rfl⟩
  rw [← ec] at hC
  clear ec
  obtain ⟨l2, el⟩ : ∃ l2, l2 = l.filter (fun n => !alikeP q.key lp n) := ⟨_, rfl⟩
  rw [← el] at hC hsub ⊢
  clear el
  have HL := Lib.hid (fun (w1 : World) (hs : Sh fb rb w1 s R m most last l2) h1 h2 h3 h4 h5 => lay_any fb rb s R m most last l2 (last + 1) q lp lf w1 hs h1 h2 h3 h4 hk hb hl hl2 (fun n hn => by have := hid n (hsub n hn); omega) h5 M hM hc)
  have hwf : (Lit.int .i64 (last + 1)).wf = true := by
    simp [Lit.wf, IntKind.min, IntKind.max, IntKind.signed, IntKind.bits]
    omega
  have hwr : IntKind.i64.wrap (last + 1) = last + 1 := by rw [IntKind.wrap_i64]; omega
  have hmf : ∀ (fn : Fn) (first cap : Array Value) (w : World), (Instr.makeFunc fn first cap).run Tryz.prog w = .ok (.func fn first cap) w := fun _ _ _ _ => rfl
  obtain ⟨key, vp, st, vf, body, asked, came⟩ := q
  simp only [En.val] at *
  obtain ⟨kc, ekc⟩ : ∃ kc, kc = costF ⟨key, vp, st, vf, body, asked, came⟩ lp lf := ⟨_, rfl⟩
  rw [← ekc] at HL ⊢
  clear ekc hc
  go_enter Tryz.func28, Tryz.ntmps28
  go_upto_region 3 with fail
  rw [← ew]
  clear ew
  go_wp2_with fail
  refine hC.mono ?_
  rintro e w1 ⟨rfl, hs1, hb1⟩
  have hG1 := hG.but hb1 hGo
  have hw1 := (But.of_below (S := Foot s R m l) hb0).trans hb1
  have x2 : w1.cell? ⟨s, 2, none⟩ = some (.int .i64 last) := hs1.blk.cell 2
  (have y0 : w1.cell? ⟨w.heap.size, 0, none⟩ = some (S key) := hG1.cell 0; have y1 : w1.cell? ⟨w.heap.size, 1, none⟩ = some (vp) := hG1.cell 1; have y2 : w1.cell? ⟨w.heap.size, 2, none⟩ = some (.int .i64 st) := hG1.cell 2; have y3 : w1.cell? ⟨w.heap.size, 3, none⟩ = some (vf) := hG1.cell 3; have y4 : w1.cell? ⟨w.heap.size, 4, none⟩ = some (S body) := hG1.cell 4; have y5 : w1.cell? ⟨w.heap.size, 5, none⟩ = some (.int .i64 asked) := hG1.cell 5; have y6 : w1.cell? ⟨w.heap.size, 6, none⟩ = some (.int .i64 came) := hG1.cell 6)
  have hsd := hs1.drew
  clear hs0 hC hG hG1 hb0 hb1
  go_wp2_with fail
  go_region_with (first
    | (go_at_call 59; refine (HL.out w1.drew hsd (Nat.le_trans hfb hw1.size) (Nat.le_trans hrb hw1.size) (fun w' hb => hp w' (hw1.drew.trans (hb.more fun k hk => foot_more hsub hk))) (fun w' hb => hf w' (hw1.drew.trans (hb.more fun k hk => foot_more hsub hk))) hwf).mono ?_; rintro e w2 ⟨rfl, nd, hnx, hnb, hs2, hb2⟩))
  all_goals
    have z2 : w2.cell? ⟨s, 2, none⟩ = some (.int .i64 last) := hs2.blk.cell 2
    have g2 := hs2.blk.free 2
    have hs3 := hs2.last (last + 1)
    have hb3 := ((hw1.drew.trans (hb2.more fun k hk => foot_more hsub hk)).setCell (p := ⟨s, 2, none⟩) (.inl (.inl rfl)) (.int .i64 (last + 1)))
    have hww := hw1.size
    clear hs2 hb2 hw1 hsd x2
    go_wp2
    go_ret2
    exact ⟨rfl, nd, hnx, Nat.le_trans hww hnb, hs3, hb3⟩

set_option maxRecDepth 100000 in
set_option maxHeartbeats 4000000 in
theorem Put_long (fb rb s R m : Nat) (most last : Int) (l : List Nd) (q : En) (lp lf : List F) (w : World) (h : Sh fb rb w s R m most last l) (hp : ∀ w', But (Foot s R m l) w w' → Fs w'.heap.size w' q.vp lp) (hf : ∀ w', But (Foot s R m l) w w' → Fs w'.heap.size w' q.vf lf)
    (hk : q.key.length ≤ 1099511627776) (hb : q.body.length ≤ 1099511627776) (hl : fsum lp ≤ 1099511627776) (hl2 : fsum lf ≤ 1099511627776) (hla : 0 ≤ last ∧ last ≤ 4611686018427387904) (hc : most < (costF q lp lf : Nat)) :
    Calls Tryz.prog 28 #[Ptr s, q.val] w fun e w' => e = .returned (.tuple #[.int .i64 0, .int .i64 2]) ∧ Sh fb rb w' s R m most last (l.filter (fun n => !alikeP q.key lp n)) ∧ But (Foot s R m l) w w' := by
  obtain ⟨w0, ew⟩ : ∃ w0 : World, w0 = w.alloc (.cells #[S q.key, q.vp, .int .i64 q.st, q.vf, S q.body, .int .i64 q.asked, .int .i64 q.came] 36) := ⟨_, rfl⟩
  have hb0 : Below w.heap.size w w0 := by rw [ew]; exact (Below.refl _ _).alloc (Nat.le_refl _) _
  have hG : Blk w0 w.heap.size 36 #[S q.key, q.vp, .int .i64 q.st, q.vf, S q.body, .int .i64 q.asked, .int .i64 q.came] := by rw [ew]; exact Blk.new _ _ _
  have hs0 := h.below hb0
  have hlen := h.length_le
  have hGo : ¬ Foot s R m l w.heap.size := hs0.off hG (by decide) (by decide)
  have hC := sweepPut fb rb s R m most last l w0 hs0 (by omega) w.heap.size q lp hG fun w' hb => hp w' ((But.of_below hb0).trans hb)
  have hsub : ∀ n ∈ l.filter (fun n => !alikeP q.key lp n), n ∈ l := fun n hn => (List.mem_filter.1 hn).1
  obtain ⟨c, ec⟩ : ∃ c, c = (l.filter (alikeP q.key lp)).length := ⟨_, rfl⟩
  rw [← ec] at hC
  clear ec
  obtain ⟨l2, el⟩ : ∃ l2, l2 = l.filter (fun n => !alikeP q.key lp n) := ⟨_, rfl⟩
  rw [← el] at hC hsub ⊢
  clear el
  have HL := Lib.hid (fun (w1 : World) (hs : Sh fb rb w1 s R m most last l2) h1 h2 => lay_long fb rb s R m most last l2 (last + 1) q lp lf w1 hs h1 h2 hk hb hl hl2 hc)
  have hwr : IntKind.i64.wrap (last + 1) = last + 1 := by rw [IntKind.wrap_i64]; omega
  have hmf : ∀ (fn : Fn) (first cap : Array Value) (w : World), (Instr.makeFunc fn first cap).run Tryz.prog w = .ok (.func fn first cap) w := fun _ _ _ _ => rfl
  obtain ⟨key, vp, st, vf, body, asked, came⟩ := q
  simp only [En.val] at *
  clear hc
  go_enter Tryz.func28, Tryz.ntmps28
  go_upto_region 3 with fail
  rw [← ew]
  clear ew
  go_wp2_with fail
  refine hC.mono ?_
  rintro e w1 ⟨rfl, hs1, hb1⟩
  have hG1 := hG.but hb1 hGo
  have hw1 := (But.of_below (S := Foot s R m l) hb0).trans hb1
  have x2 : w1.cell? ⟨s, 2, none⟩ = some (.int .i64 last) := hs1.blk.cell 2
  (have y0 : w1.cell? ⟨w.heap.size, 0, none⟩ = some (S key) := hG1.cell 0; have y1 : w1.cell? ⟨w.heap.size, 1, none⟩ = some (vp) := hG1.cell 1; have y2 : w1.cell? ⟨w.heap.size, 2, none⟩ = some (.int .i64 st) := hG1.cell 2; have y3 : w1.cell? ⟨w.heap.size, 3, none⟩ = some (vf) := hG1.cell 3; have y4 : w1.cell? ⟨w.heap.size, 4, none⟩ = some (S body) := hG1.cell 4; have y5 : w1.cell? ⟨w.heap.size, 5, none⟩ = some (.int .i64 asked) := hG1.cell 5; have y6 : w1.cell? ⟨w.heap.size, 6, none⟩ = some (.int .i64 came) := hG1.cell 6)
  have hsd := hs1.drew
  clear hs0 hC hG hG1 hb0 hb1
  go_wp2_with fail
  go_region_with (first
    | (go_at_call 59; refine (HL.out w1.drew hsd (hp _ hw1.drew) (hf _ hw1.drew)).mono ?_; rintro e w2 ⟨rfl, hb2⟩))
  all_goals
    have hs3 := hsd.below hb2
    have hb3 := hw1.drew.trans (But.of_below hb2)
    clear hb2 hw1 hsd x2
    go_wp2
    go_ret2
    exact ⟨rfl, hs3, hb3⟩
end Go.Proofs.YtahapblgmehngaaGreatDoor

