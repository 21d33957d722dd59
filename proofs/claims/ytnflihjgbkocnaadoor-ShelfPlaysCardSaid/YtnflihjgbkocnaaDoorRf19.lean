
/- The walks of layer 19's reference: what an entry costs; two entries with the same parts are the same. -/
import Derived.Test.YtnflihjgbkocnaaDoorOct
import Derived.Test.YtnflihjgbkocnaaDoorShf2
import Derived.Test.YtnflihjgbkocnaaDoorShp
import Derived.Test.YtnflihjgbkocnaaDoorVarS
import Derived.Deep.DeepCutAuto
import Derived.Deep.RegionHeld3
namespace Go.Dr
open Go.RowKit
set_option linter.unusedSimpArgs false in
set_option linter.unusedVariables false in
set_option linter.unnecessarySimpa false in
theorem fbytes_small (l : List F) (h : fsum l ≤ 1048576) : fbytes l = fsum l := by
  have : ∀ (l : List F) (n : Nat), n + fsum l ≤ 1048576 → l.foldl fbStep n = n + fsum l := by
    intro l
    induction l with
    | nil => intro n _; simp [fsum]
    | cons f l ih =>
      intro n hn
      have e : fsum (f :: l) = f.n.length + f.v.length + 32 + fsum l := by simp [fsum]
      rw [e] at hn ⊢
      have e2 : fbStep n f = n + f.n.length + f.v.length + 32 := by unfold fbStep; rw [if_pos (by omega)]
      rw [List.foldl_cons, e2, ih _ (by omega)]
      omega
  have := this l 0 (by omega)
  unfold fbytes
  omega
end Go.Dr
namespace Go.Proofs.YtnflihjgbkocnaaDoor
open Go.RowKit Go.Dr

set_option linter.unnecessarySimpa false in
set_option linter.unusedSimpArgs false in
set_option linter.unusedVariables false in
set_option maxRecDepth 100000 in
set_option maxHeartbeats 4000000 in
theorem refCost_any (q : En) (lp lf : List F) (w : World) (hp : Fs w.heap.size w q.vp lp) (hf : Fs w.heap.size w q.vf lf) (hk : q.key.length ≤ 1099511627776) (hb : q.body.length ≤ 1099511627776) (hl : fsum lp ≤ 1099511627776) (hl2 : fsum lf ≤ 1048576) :
    Calls Tryd.prog 8 #[q.val] w fun e w' => e = .returned (.int .i64 (costF q lp lf : Nat)) ∧ Below w.heap.size w w' := by
  obtain ⟨pf, cf, hfv, -⟩ := hf.form
  obtain ⟨pp, cp, hpv, -⟩ := hp.form
  obtain ⟨key, vp, st, vf, body, asked, came⟩ := q
  simp only at hfv hpv hf hp hk hb
  subst hfv hpv
  have HC : Hid (costF ⟨key, .slice pp lp.length cp, st, .slice pf lf.length cf, body, asked, came⟩ lp lf = 64 + key.length + body.length + fsum lf + fsum lp) := rfl
  simp only [En.val]
  generalize costF ⟨key, .slice pp lp.length cp, st, .slice pf lf.length cf, body, asked, came⟩ lp lf = C at *
  obtain ⟨w0, ew⟩ : ∃ w0 : World, w0 = w.alloc (.cells #[S key, .slice pp lp.length cp, .int .i64 st, .slice pf lf.length cf, S body, .int .i64 asked, .int .i64 came] 36) := ⟨_, rfl⟩
  have hQ0 : Blk w0 w.heap.size 36 #[S key, .slice pp lp.length cp, .int .i64 st, .slice pf lf.length cf, S body, .int .i64 asked, .int .i64 came] := by rw [ew]; exact Blk.new _ _ _
  have hb0 : Below w.heap.size w w0 := by rw [ew]; exact (Below.refl _ _).alloc (Nat.le_refl _) _
  have hf0 := (hf.below hb0).mono hb0.size
  have hp0 := (hp.below hb0).mono hb0.size
  have y0 : w0.cell? ⟨w.heap.size, 0, none⟩ = some (S key) := hQ0.cell 0
  have y3 : w0.cell? ⟨w.heap.size, 3, none⟩ = some (.slice pf lf.length cf) := hQ0.cell 3
  have y4 : w0.cell? ⟨w.heap.size, 4, none⟩ = some (S body) := hQ0.cell 4
  have hfb : ∀ f ∈ lf, f.n.length ≤ 140737488355328 ∧ f.v.length ≤ 140737488355328 := fun f hm => by have := fsum_mem hm; omega
  have HF : Hid (∀ w, Fs w.heap.size w (.slice pf lf.length cf) lf → Calls Tryd.prog 22 #[.slice pf lf.length cf] w fun e w' => e = .returned (.int .i64 (fsum lf : Nat)) ∧ Below w.heap.size w w') := fun w h => by
    have := FBytes_any lf (.slice pf lf.length cf) w h hfb
    rwa [fbytes_small lf hl2] at this
  have HFd := Lib.hid (show Fs w0.drew.heap.size w0.drew (.slice pf lf.length cf) lf from hf0)
  have HQ := Lib.hid hQ0
  obtain ⟨sf, esf⟩ : ∃ sf, sf = fsum lf := ⟨_, rfl⟩
  rw [← esf] at HC HF hl2
  clear esf
  go_enter Tryd.func8, Tryd.ntmps8
  go_upto_region 1 with fail
  rw [← ew]
  clear ew hf hp hfb
  go_region_held3 (fun wx => wx.cell? ⟨w.heap.size, 0, none⟩ = some (S key) ∧ wx.cell? ⟨w.heap.size, 3, none⟩ = some (.slice pf lf.length cf) ∧ wx.cell? ⟨w.heap.size, 4, none⟩ = some (S body))
    (first | go_keep)
    ((go_at_call 22; (with_reducible refine (HF.out w0.drew HFd.out).mono ?_); rintro e w2 ⟨rfl, hb2⟩; replace hb2 := Bl.undrew hb2; have hQ2 := HQ.out.on hb2; have z0 : w2.cell? ⟨w.heap.size, 0, none⟩ = some (S key) := hQ2.cell 0; have z3 : w2.cell? ⟨w.heap.size, 3, none⟩ = some (.slice pf lf.length cf) := hQ2.cell 3; have z4 : w2.cell? ⟨w.heap.size, 4, none⟩ = some (S body) := hQ2.cell 4; have hp2 := (hp0.below hb2).mono hb2.size; have hw2 := Bl.tr hb0 hb2))
  all_goals
    have y1 : w2.cell? ⟨w.heap.size, 1, none⟩ = some (.slice pp lp.length cp) := hQ2.cell 1
    have e1 : IntKind.i64.wrap (IntKind.i64.wrap (IntKind.i64.wrap (64 + (key.length : Int)) + (body.length : Int)) + (sf : Int)) = ((64 + key.length + body.length + sf : Nat) : Int) := by
      rw [IntWalk.i64_in (64 + (key.length : Int)) (by omega), IntWalk.i64_in (64 + (key.length : Int) + (body.length : Int)) (by omega), IntWalk.i64_in _ (by omega)]
      omega
    try rw [e1]
    clear e1
    obtain ⟨T, eT⟩ : ∃ T, T = 64 + key.length + body.length + sf := ⟨_, rfl⟩
    rw [← eT]
    have HT := Lib.hid eT
    have hT : T ≤ 3298535932416 := by omega
    clear eT
    have hln := fsum_length lp
    go_wp2
    go_loopw [3, 4] (fun n i wr => ∃ k : Nat, i = .int .i64 k ∧ k ≤ lp.length ∧ n = .int .i64 ((T + fsum (lp.take k) : Nat) : Int) ∧ Below w2.heap.size w2 wr) (fun _ i _ => lp.length - (intOf i).toNat)
    case atStart => exact ⟨0, rfl, Nat.zero_le _, by simp [fsum], Below.refl _ _⟩
    case round =>
      obtain ⟨k, rfl, hk', rfl, hbel⟩ := hrel
      have hbd := fsum_take lp k
      have k1 : wr.cell? ⟨w.heap.size, 1, none⟩ = some (.slice pp lp.length cp) := (hQ2.on hbel).cell 1
      by_cases hlt : k < lp.length
      · obtain ⟨b, off, rfl, hbb, c0, c1, c2⟩ := (hp2.below hbel).at k hlt
        have hff := fsum_mem (List.getElem_mem hlt)
        have HS : Hid (fsum (lp.take (k + 1)) = fsum (lp.take k) + (lp[k].n.length + lp[k].v.length + 32)) := by show _ = _; rw [take_snoc lp k hlt, fsum_append]; simp [fsum]
        generalize fsum (lp.take k) = s at *
        generalize lp[k] = g at *
        have e2 : IntKind.i64.wrap (IntKind.i64.wrap (IntKind.i64.wrap ((T : Int) + (s : Int) + (g.n.length : Int)) + (g.v.length : Int)) + 32) = ((T + (s + (g.n.length + g.v.length + 32)) : Nat) : Int) := by
          rw [IntWalk.i64_in ((T : Int) + (s : Int) + (g.n.length : Int)) (by omega), IntWalk.i64_in ((T : Int) + (s : Int) + (g.n.length : Int) + (g.v.length : Int)) (by omega), IntWalk.i64_in _ (by omega)]
          omega
        go_wp2_with fail
        go_region_held3 (fun wx => wx.cell? ⟨w.heap.size, 1, none⟩ = some (.slice (some ⟨b, off, none⟩) lp.length cp) ∧ wx.cell? ⟨b, off + k * 3, none⟩ = some (S g.n) ∧ wx.cell? ⟨b, off + k * 3 + 1, none⟩ = some (S g.v))
          (first | go_keep)
          (fail)
        all_goals
          try rw [e2]
          go_wp2
          go_roundw
          case rel => exact ⟨k + 1, by go_num, by omega, by rw [HS.out]; exact congrArg (Value.int .i64) (by omega), hbel.drew⟩
          case measure => simp [intOf]; omega
      · have e : k = lp.length := by omega
        subst e
        rw [List.take_length] at *
        go_wp2
        go_ret
        exact ⟨ret_int (by rw [HC.out, HT.out]), Bl.tr hw2 hbel⟩

set_option linter.unnecessarySimpa false in
set_option linter.unusedSimpArgs false in
set_option linter.unusedVariables false in
set_option maxRecDepth 100000 in
set_option maxHeartbeats 4000000 in
/-- Two entries of the same parts. -/
theorem refSame_eq (q : En) (vp' vf' : Value) (lp lf : List F) (w : World) (hp : Fs w.heap.size w q.vp lp) (hf : Fs w.heap.size w q.vf lf) (hp' : Fs w.heap.size w vp' lp) (hf' : Fs w.heap.size w vf' lf) :
    Calls Tryd.prog 13 #[q.val, .agg #[S q.key, vp', .int .i64 q.st, vf', S q.body, .int .i64 q.asked, .int .i64 q.came]] w fun e w' => e = .returned (.bool true) ∧ Below w.heap.size w w' := by
  obtain ⟨key, vp, st, vf, body, asked, came⟩ := q
  simp only [En.val] at *
  obtain ⟨w1, ew1⟩ : ∃ w1 : World, w1 = w.alloc (.cells #[S key, vp, .int .i64 st, vf, S body, .int .i64 asked, .int .i64 came] 36) := ⟨_, rfl⟩
  have hs1 : w1.heap.size = w.heap.size + 1 := by rw [ew1]; simp
  obtain ⟨w0, ew⟩ : ∃ w0 : World, w0 = w1.alloc (.cells #[S key, vp', .int .i64 st, vf', S body, .int .i64 asked, .int .i64 came] 36) := ⟨_, rfl⟩
  have hA : Blk w0 w.heap.size 36 #[S key, vp, .int .i64 st, vf, S body, .int .i64 asked, .int .i64 came] := by rw [ew, ew1]; exact (Blk.new _ _ _).alloc _
  have hB : Blk w0 (w.heap.size + 1) 36 #[S key, vp', .int .i64 st, vf', S body, .int .i64 asked, .int .i64 came] := by
    rw [ew]
    have := Blk.new w1 36 #[S key, vp', .int .i64 st, vf', S body, .int .i64 asked, .int .i64 came]
    rwa [hs1] at this
  have hb0 : Below w.heap.size w w0 := by rw [ew, ew1]; exact ((Below.refl _ _).alloc (Nat.le_refl _) _).alloc (by simp) _
  rw [ew1] at ew
  clear ew1 hs1 w1
  have hp0 := (hp.below hb0).mono hb0.size
  have hp0' := (hp'.below hb0).mono hb0.size
  have hf0 := (hf.below hb0).mono hb0.size
  have hf0' := (hf'.below hb0).mono hb0.size
  have HP := PSame_any lp lp vp vp' w0 hp0 hp0'
  have HF := Lib.hid (fun w h1 h2 => Fields_any lf lf vf vf' w h1 h2)
  rw [show (lp == lp) = true from by simp] at HP
  rw [show (lf == lf) = true from by simp] at HF
  clear hp hp' hf hf' hp0 hp0'
  go_enter Tryd.func13, Tryd.ntmps13
  go_upto_region 1 with fail
  rw [← ew]
  clear ew
  (have x0 : w0.cell? ⟨w.heap.size, 0, none⟩ = some (S key) := hA.cell 0; have x1 : w0.cell? ⟨w.heap.size, 1, none⟩ = some (vp) := hA.cell 1; have x2 : w0.cell? ⟨w.heap.size, 2, none⟩ = some (.int .i64 st) := hA.cell 2; have x3 : w0.cell? ⟨w.heap.size, 3, none⟩ = some (vf) := hA.cell 3; have x4 : w0.cell? ⟨w.heap.size, 4, none⟩ = some (S body) := hA.cell 4; have x5 : w0.cell? ⟨w.heap.size, 5, none⟩ = some (.int .i64 asked) := hA.cell 5; have x6 : w0.cell? ⟨w.heap.size, 6, none⟩ = some (.int .i64 came) := hA.cell 6)
  (have y0 : w0.cell? ⟨w.heap.size + 1, 0, none⟩ = some (S key) := hB.cell 0; have y1 : w0.cell? ⟨w.heap.size + 1, 1, none⟩ = some (vp') := hB.cell 1; have y2 : w0.cell? ⟨w.heap.size + 1, 2, none⟩ = some (.int .i64 st) := hB.cell 2; have y3 : w0.cell? ⟨w.heap.size + 1, 3, none⟩ = some (vf') := hB.cell 3; have y4 : w0.cell? ⟨w.heap.size + 1, 4, none⟩ = some (S body) := hB.cell 4; have y5 : w0.cell? ⟨w.heap.size + 1, 5, none⟩ = some (.int .i64 asked) := hB.cell 5; have y6 : w0.cell? ⟨w.heap.size + 1, 6, none⟩ = some (.int .i64 came) := hB.cell 6)
  go_wp2_with fail
  refine HP.mono ?_
  rintro e w2 ⟨rfl, hb2⟩
  have hA2 := hA.on hb2
  have hB2 := hB.on hb2
  have hw2 := Bl.tr hb0 hb2
  have hf2 := (hf0.below hb2).mono hb2.size
  have hf2' := (hf0'.below hb2).mono hb2.size
  clear x0 x1 x2 x3 x4 x5 x6 y0 y1 y2 y3 y4 y5 y6
  (have x0 : w2.cell? ⟨w.heap.size, 0, none⟩ = some (S key) := hA2.cell 0; have x1 : w2.cell? ⟨w.heap.size, 1, none⟩ = some (vp) := hA2.cell 1; have x2 : w2.cell? ⟨w.heap.size, 2, none⟩ = some (.int .i64 st) := hA2.cell 2; have x3 : w2.cell? ⟨w.heap.size, 3, none⟩ = some (vf) := hA2.cell 3; have x4 : w2.cell? ⟨w.heap.size, 4, none⟩ = some (S body) := hA2.cell 4; have x5 : w2.cell? ⟨w.heap.size, 5, none⟩ = some (.int .i64 asked) := hA2.cell 5; have x6 : w2.cell? ⟨w.heap.size, 6, none⟩ = some (.int .i64 came) := hA2.cell 6)
  (have y0 : w2.cell? ⟨w.heap.size + 1, 0, none⟩ = some (S key) := hB2.cell 0; have y1 : w2.cell? ⟨w.heap.size + 1, 1, none⟩ = some (vp') := hB2.cell 1; have y2 : w2.cell? ⟨w.heap.size + 1, 2, none⟩ = some (.int .i64 st) := hB2.cell 2; have y3 : w2.cell? ⟨w.heap.size + 1, 3, none⟩ = some (vf') := hB2.cell 3; have y4 : w2.cell? ⟨w.heap.size + 1, 4, none⟩ = some (S body) := hB2.cell 4; have y5 : w2.cell? ⟨w.heap.size + 1, 5, none⟩ = some (.int .i64 asked) := hB2.cell 5; have y6 : w2.cell? ⟨w.heap.size + 1, 6, none⟩ = some (.int .i64 came) := hB2.cell 6)
  go_wp2_with fail
  refine (HF.out w2 hf2 hf2').mono ?_
  rintro e w3 ⟨rfl, hb3⟩
  have hA3 := hA2.on hb3
  have hB3 := hB2.on hb3
  have hw3 := Bl.tr hw2 hb3
  clear x0 x1 x2 x3 x4 x5 x6 y0 y1 y2 y3 y4 y5 y6
  (have x0 : w3.cell? ⟨w.heap.size, 0, none⟩ = some (S key) := hA3.cell 0; have x1 : w3.cell? ⟨w.heap.size, 1, none⟩ = some (vp) := hA3.cell 1; have x2 : w3.cell? ⟨w.heap.size, 2, none⟩ = some (.int .i64 st) := hA3.cell 2; have x3 : w3.cell? ⟨w.heap.size, 3, none⟩ = some (vf) := hA3.cell 3; have x4 : w3.cell? ⟨w.heap.size, 4, none⟩ = some (S body) := hA3.cell 4; have x5 : w3.cell? ⟨w.heap.size, 5, none⟩ = some (.int .i64 asked) := hA3.cell 5; have x6 : w3.cell? ⟨w.heap.size, 6, none⟩ = some (.int .i64 came) := hA3.cell 6)
  (have y0 : w3.cell? ⟨w.heap.size + 1, 0, none⟩ = some (S key) := hB3.cell 0; have y1 : w3.cell? ⟨w.heap.size + 1, 1, none⟩ = some (vp') := hB3.cell 1; have y2 : w3.cell? ⟨w.heap.size + 1, 2, none⟩ = some (.int .i64 st) := hB3.cell 2; have y3 : w3.cell? ⟨w.heap.size + 1, 3, none⟩ = some (vf') := hB3.cell 3; have y4 : w3.cell? ⟨w.heap.size + 1, 4, none⟩ = some (S body) := hB3.cell 4; have y5 : w3.cell? ⟨w.heap.size + 1, 5, none⟩ = some (.int .i64 asked) := hB3.cell 5; have y6 : w3.cell? ⟨w.heap.size + 1, 6, none⟩ = some (.int .i64 came) := hB3.cell 6)
  go_wp2
  go_ret
  exact ⟨rfl, hw3⟩
end Go.Proofs.YtnflihjgbkocnaaDoor
