/- Parts of the proof of pt_root: the texts Per5 Per6. -/
import Derived.Test.YtkeeofhjdffhbaaGreatDoorT22
import Derived.Test.YtkeeofhjdffhbaaGreatDoorT15
set_option linter.unusedSimpArgs false
set_option linter.unusedVariables false
set_option linter.unnecessarySimpa false
namespace Go.Proofs.YtkeeofhjdffhbaaGreatDoor
open Go.RowKit Go.Dr
theorem one_get {w : World} {m s : Nat} (h : PMap Tryz.prog 3 w m [(1, s)]) : (Instr.lookup 90 (.map (some m)) (.int .i64 1) false).run Tryz.prog w = .ok (Ptr s) w := by
 rcases PMap.get h (t := 90) Tryz.underlying3 Tryz.underlying90 (zeroSide w) 1 (by decide) with ⟨b, hm, e⟩ | ⟨hn, -⟩
 ·simp at hm
  subst hm
  exact e
 ·exact absurd rfl (hn (1, s) (by simp))
theorem pmap_below {w w' : World} {m s : Nat} (h : PMap Tryz.prog 3 w m [(1, s)]) (hb : Below w.heap.size w w') : PMap Tryz.prog 3 w' m [(1, s)] := h.block (hb.block m h.lt)
set_option maxRecDepth 100000 in
set_option maxHeartbeats 4000000 in
theorem streams_dat {p m s sn sc : Nat} {ps ss : Array Value} {pad code la inc dep wt xc xs : Int} {sole xi : Bool} {da : Bytes} {sa : Option Addr} (w : World) (h : Blk w p 97 ps) (h11 : ps[11]? = some (.map (some m))) (hm : PMap Tryz.prog 3 w m [(1, s)]) (hs : Blk w s 118 ss) (h4 : ss[4]? = some (.bool false)) (h5 : ss[5]? = some (.bool false)) (h7 : ss[7]? = some (.int .i64 1)) :
  Calls Tryz.prog 51 #[Ptr p, .agg #[.int .i64 0, .int .i64 0, .int .i64 1, S da, .int .i64 pad, .slice sa sn sc, .int .i64 code, .int .i64 la, .int .i64 inc, .int .i64 dep, .int .i64 wt, .bool sole, .bool xi, .int .i64 xc, .int .i64 xs]] w fun e w' => e = .returned (.int .i64 0) ∧ Below w.heap.size w w' := by
 obtain ⟨W, eW⟩ : ∃ W, W = (w.alloc (.cells #[.int .i64 0, .int .i64 0, .int .i64 1, S da, .int .i64 pad, .slice sa sn sc, .int .i64 code, .int .i64 la, .int .i64 inc, .int .i64 dep, .int .i64 wt, .bool sole, .bool xi, .int .i64 xc, .int .i64 xs] 74)).alloc (.cells #[.int .i64 0, .int .i64 0, .int .i64 1, S da, .int .i64 pad, .slice sa sn sc, .int .i64 code, .int .i64 la, .int .i64 inc, .int .i64 dep, .int .i64 wt, .bool sole] 34) := ⟨_, rfl⟩
 have hb : Below w.heap.size w W := by rw [eW];exact ((Below.refl _ _).alloc (Nat.le_refl _) _).alloc (by simp) _
 have hF : Blk W (w.heap.size + 1) 34 #[.int .i64 0, .int .i64 0, .int .i64 1, S da, .int .i64 pad, .slice sa sn sc, .int .i64 code, .int .i64 la, .int .i64 inc, .int .i64 dep, .int .i64 wt, .bool sole] := by rw [eW, ← World.size_alloc];exact Blk.new _ _ _
 have hP := h.on hb
 have hS := hs.on hb
 have y11 : W.cell? ⟨p, 11, none⟩ = some (.map (some m)) := (hP.cell 11).trans h11
 have u0 : W.cell? ⟨w.heap.size + 1, 0, none⟩ = some (.int .i64 0) := hF.cell 0
 have u1 : W.cell? ⟨w.heap.size + 1, 1, none⟩ = some (.int .i64 0) := hF.cell 1
 have u2 : W.cell? ⟨w.heap.size + 1, 2, none⟩ = some (.int .i64 1) := hF.cell 2
 have q4 : W.cell? ⟨s, 4, none⟩ = some (.bool false) := (hS.cell 4).trans h4
 have q5 : W.cell? ⟨s, 5, none⟩ = some (.bool false) := (hS.cell 5).trans h5
 have q7 : W.cell? ⟨s, 7, none⟩ = some (.int .i64 1) := (hS.cell 7).trans h7
 have k1 := one_get (pmap_below hm hb)
 have k2 := one_get (show PMap Tryz.prog 3 W.drew m [(1, s)] from (pmap_below hm hb).block rfl)
 have bt : bits .and .i64 0 1 = 0 := by decide
 go_enter Tryz.func51, Tryz.ntmps51
 go_upto_region 10 with fail
 rw [← eW]
 clear eW
 go_region_with (fail)
 all_goals go_wp2
 all_goals go_ret
 all_goals exact ⟨rfl, hb.drew⟩
set_option maxRecDepth 100000 in
set_option maxHeartbeats 4000000 in
theorem streams_head {p m s sn sc : Nat} {ps ss : Array Value} {pad code la inc dep wt xc xs : Int} {sole xi : Bool} {da : Bytes} {sa : Option Addr} (w : World) (h : Blk w p 97 ps) (h11 : ps[11]? = some (.map (some m))) (hm : PMap Tryz.prog 3 w m [(1, s)]) (hs : Blk w s 118 ss) (h4 : ss[4]? = some (.bool false)) (h5 : ss[5]? = some (.bool false)) (h7 : ss[7]? = some (.int .i64 0)) :
  Calls Tryz.prog 51 #[Ptr p, .agg #[.int .i64 1, .int .i64 4, .int .i64 1, S da, .int .i64 pad, .slice sa sn sc, .int .i64 code, .int .i64 la, .int .i64 inc, .int .i64 dep, .int .i64 wt, .bool sole, .bool xi, .int .i64 xc, .int .i64 xs]] w fun e w' => e = .returned (.int .i64 0) ∧ Below w.heap.size w w' := by
 obtain ⟨W, eW⟩ : ∃ W, W = (w.alloc (.cells #[.int .i64 1, .int .i64 4, .int .i64 1, S da, .int .i64 pad, .slice sa sn sc, .int .i64 code, .int .i64 la, .int .i64 inc, .int .i64 dep, .int .i64 wt, .bool sole, .bool xi, .int .i64 xc, .int .i64 xs] 74)).alloc (.cells #[.int .i64 1, .int .i64 4, .int .i64 1, S da, .int .i64 pad, .slice sa sn sc, .int .i64 code, .int .i64 la, .int .i64 inc, .int .i64 dep, .int .i64 wt, .bool sole] 34) := ⟨_, rfl⟩
 have hb : Below w.heap.size w W := by rw [eW];exact ((Below.refl _ _).alloc (Nat.le_refl _) _).alloc (by simp) _
 have hF : Blk W (w.heap.size + 1) 34 #[.int .i64 1, .int .i64 4, .int .i64 1, S da, .int .i64 pad, .slice sa sn sc, .int .i64 code, .int .i64 la, .int .i64 inc, .int .i64 dep, .int .i64 wt, .bool sole] := by rw [eW, ← World.size_alloc];exact Blk.new _ _ _
 have hP := h.on hb
 have hS := hs.on hb
 have y11 : W.cell? ⟨p, 11, none⟩ = some (.map (some m)) := (hP.cell 11).trans h11
 have u0 : W.cell? ⟨w.heap.size + 1, 0, none⟩ = some (.int .i64 1) := hF.cell 0
 have u1 : W.cell? ⟨w.heap.size + 1, 1, none⟩ = some (.int .i64 4) := hF.cell 1
 have u2 : W.cell? ⟨w.heap.size + 1, 2, none⟩ = some (.int .i64 1) := hF.cell 2
 have q4 : W.cell? ⟨s, 4, none⟩ = some (.bool false) := (hS.cell 4).trans h4
 have q5 : W.cell? ⟨s, 5, none⟩ = some (.bool false) := (hS.cell 5).trans h5
 have q7 : W.cell? ⟨s, 7, none⟩ = some (.int .i64 0) := (hS.cell 7).trans h7
 have k1 := one_get (pmap_below hm hb)
 have k2 := one_get (show PMap Tryz.prog 3 W.drew m [(1, s)] from (pmap_below hm hb).block rfl)
 have bt : bits .and .i64 4 1 = 0 := by decide
 go_enter Tryz.func51, Tryz.ntmps51
 go_upto_region 10 with fail
 rw [← eW]
 clear eW
 go_region_with (fail)
 all_goals go_wp2
 all_goals go_ret
 all_goals exact ⟨rfl, hb.drew⟩
end Go.Proofs.YtkeeofhjdffhbaaGreatDoor
namespace Go.Proofs.YtkeeofhjdffhbaaGreatDoor
open Go.RowKit Go.Dr
set_option maxRecDepth 100000 in
set_option maxHeartbeats 8000000 in
theorem data_yes {p m o s sc : Nat} {ps ss : Array Value} {all beg x code la inc dep wt xc xs : Int} {sole xi : Bool} {l b : Bytes} {sa : Option Addr} (w : World) (h : Blk w p 97 ps) (h2 : ps[2]? = some (.int .i64 all)) (h3 : ps[3]? = some (.int .i64 beg)) (h4 : ps[4]? = some (.map (some o))) (h11 : ps[11]? = some (.map (some m)))
    (hm : PMap Tryz.prog 3 w m [(1, s)]) (ho : OM w o x) (hs : Blk w s 118 ss) (s3 : ss[3]? = some (S b)) (s4 : ss[4]? = some (.bool false)) (s9 : ss[9]? = some (.bool false)) (hmo : m ≠ o) (hl : l.length ≤ 16384) (hb : b.length ≤ 1048576)
    (ha : (l.length : Int) ≤ all) (hx : (l.length : Int) = 0 ∨ (l.length : Int) ≤ beg + x) (ha2 : all < 4294967296) (hb1 : 0 ≤ beg) (hbg2 : beg < 4294967296) (hx1 : -4294967296 < x) (hx2 : x < 4294967296) :
    Calls Tryz.prog 52 #[Ptr p, .agg #[.int .i64 0, .int .i64 0, .int .i64 1, S l, .int .i64 0, .slice sa 0 sc, .int .i64 code, .int .i64 la, .int .i64 inc, .int .i64 dep, .int .i64 wt, .bool sole, .bool xi, .int .i64 xc, .int .i64 xs]] w fun e w' => e = .returned (.int .i64 0) ∧ Blk w' p 97 (ps.setIfInBounds 2 (.int .i64 (all - l.length))) ∧ OM w' o (x - l.length) ∧ Blk w' s 118 ((ss.setIfInBounds 3 (S (b ++ l))).setIfInBounds 4 (.bool false)) ∧ But (fun k => k = p ∨ k = o ∨ k = s) w w' := by
  obtain ⟨W, eW⟩ : ∃ W, W = (w.alloc (.cells #[.int .i64 0, .int .i64 0, .int .i64 1, S l, .int .i64 0, .slice sa 0 sc, .int .i64 code, .int .i64 la, .int .i64 inc, .int .i64 dep, .int .i64 wt, .bool sole, .bool xi, .int .i64 xc, .int .i64 xs] 74)).alloc (.cells #[.int .i64 0, .int .i64 0, .int .i64 1, S l, .int .i64 0, .slice sa 0 sc, .int .i64 code, .int .i64 la, .int .i64 inc, .int .i64 dep, .int .i64 wt, .bool sole] 34) := ⟨_, rfl⟩
  have hbW : Below w.heap.size w W := by rw [eW];exact ((Below.refl _ _).alloc (Nat.le_refl _) _).alloc (by simp) _
  have hF : Blk W (w.heap.size + 1) 34 #[.int .i64 0, .int .i64 0, .int .i64 1, S l, .int .i64 0, .slice sa 0 sc, .int .i64 code, .int .i64 la, .int .i64 inc, .int .i64 dep, .int .i64 wt, .bool sole] := by rw [eW, ← World.size_alloc];exact Blk.new _ _ _
  have hP := h.on hbW
  have hS := hs.on hbW
  have hO : OM W o x := ho.block (hbW.block o ho.lt)
  have hM := pmap_below hm hbW
  have hop : o ≠ p := fun e => by
    obtain ⟨es, c, h5⟩ := ho.obj
    have := (e ▸ h5).symm.trans (show w.heap[p]? = _ from h)
    simp at this
  have hos : o ≠ s := fun e => by
    obtain ⟨es, c, h5⟩ := ho.obj
    have := (e ▸ h5).symm.trans (show w.heap[s]? = _ from hs)
    simp at this
  have hps : s ≠ p := fun e => by
    have h5 := blk_type (e ▸ hs) h
    revert h5
    decide
  have hmp : m ≠ p := fun e => by
    obtain ⟨es, c, h5⟩ := hm.obj
    have := (e ▸ h5).symm.trans (show w.heap[p]? = _ from h)
    simp at this
  have u0 : W.cell? ⟨w.heap.size + 1, 0, none⟩ = some (.int .i64 0) := hF.cell 0
  have v0 : W.drew.cell? ⟨w.heap.size + 1, 0, none⟩ = some (.int .i64 0) := hF.drew.cell 0
  have v1 : W.drew.cell? ⟨w.heap.size + 1, 1, none⟩ = some (.int .i64 0) := hF.drew.cell 1
  have v2 : W.drew.cell? ⟨w.heap.size + 1, 2, none⟩ = some (.int .i64 1) := hF.drew.cell 2
  have v3 : W.drew.cell? ⟨w.heap.size + 1, 3, none⟩ = some (S l) := hF.drew.cell 3
  have v4 : W.drew.cell? ⟨w.heap.size + 1, 4, none⟩ = some (.int .i64 0) := hF.drew.cell 4
  have v5 : W.drew.cell? ⟨w.heap.size + 1, 5, none⟩ = some (.slice sa 0 sc) := hF.drew.cell 5
  have v6 : W.drew.cell? ⟨w.heap.size + 1, 6, none⟩ = some (.int .i64 code) := hF.drew.cell 6
  have v7 : W.drew.cell? ⟨w.heap.size + 1, 7, none⟩ = some (.int .i64 la) := hF.drew.cell 7
  have v8 : W.drew.cell? ⟨w.heap.size + 1, 8, none⟩ = some (.int .i64 inc) := hF.drew.cell 8
  have v9 : W.drew.cell? ⟨w.heap.size + 1, 9, none⟩ = some (.int .i64 dep) := hF.drew.cell 9
  have v10 : W.drew.cell? ⟨w.heap.size + 1, 10, none⟩ = some (.int .i64 wt) := hF.drew.cell 10
  have v11 : W.drew.cell? ⟨w.heap.size + 1, 11, none⟩ = some (.bool sole) := hF.drew.cell 11
  have hLen := length_dat (st := 1) (code := code) (la := la) (inc := inc) (dep := dep) (wt := wt) (sole := sole) (sa := sa) (sc := sc) l hl W.drew
  go_enter Tryz.func52, Tryz.ntmps52
  go_upto_region 4 with fail
  rw [← eW]
  clear eW
  go_cut [21] (fun s21 wx => s21 = .bool false ∧ OM wx o (x - l.length) ∧ Blk wx p 97 (ps.setIfInBounds 2 (.int .i64 (all - l.length))) ∧ Blk wx s 118 ss ∧ PMap Tryz.prog 3 wx m [(1, s)] ∧ Blk wx (w.heap.size + 1) 34 #[.int .i64 0, .int .i64 0, .int .i64 1, S l, .int .i64 0, .slice sa 0 sc, .int .i64 code, .int .i64 la, .int .i64 inc, .int .i64 dep, .int .i64 wt, .bool sole] ∧ But (fun k => k = p ∨ k = o ∨ k = s) w wx)
  case first =>
    go_region_with first
      | (go_at_call 85;(with_reducible refine hLen.mono ?_);rintro e w2 ⟨rfl, hb2⟩;have hP2 := hP.drew.on hb2;have hO2 : OM w2 o x := hO.block (hb2.block o hO.lt);have x2 : w2.cell? ⟨w.heap.size + 1, 2, none⟩ = some (.int .i64 1) := (hF.drew.on hb2).cell 2;have hSp := Spend_yes w2 hop ((hP2.cell 2).trans h2) (hP2.free 2) ((hP2.cell 3).trans h3) ((hP2.cell 4).trans h4) hO2 (Int.natCast_nonneg _) ha hx ha2 hb1 hbg2 hx1 hx2)
      | (go_at_call 86;(with_reducible refine hSp.mono ?_);rintro e w3 ⟨rfl, hO3, ht3⟩)
    all_goals
      (have eB1 : But (fun k => k = p ∨ k = o) w2 (w2.setCell ⟨p, 2, none⟩ (.int .i64 (all - l.length))).drew := (But.step (S := fun k => k = p ∨ k = o) (p := ⟨p, 2, none⟩) (Or.inl rfl) _).drew
       have eB2 : But (fun k => k = p ∨ k = o) (w2.setCell ⟨p, 2, none⟩ (.int .i64 (all - l.length))).drew w3 := (but_turned ht3).more fun i hi => Or.inr hi
       have eB := eB1.trans eB2
       have hP3 : Blk w3 p 97 (ps.setIfInBounds 2 (.int .i64 (all - l.length))) := ((hP2.set 2 _).drew).but (but_turned ht3) (fun e => hop e.symm)
       have hS3 : Blk w3 s 118 ss := ((hS.drew.on hb2)).but eB (by rintro (e | e);exact hps e;exact hos e.symm)
       have hM2 : PMap Tryz.prog 3 w2 m [(1, s)] := pmap_below (show PMap Tryz.prog 3 W.drew m [(1, s)] from hM.block rfl) hb2
       have hM3 : PMap Tryz.prog 3 w3 m [(1, s)] := hM2.block (eB.block m hM2.lt (by rintro (e | e);exact hmp e;exact hmo e))
       have hFb : w.heap.size + 1 < W.heap.size := hF.lt
       have hF3 := (hF.drew.on hb2).but eB (by rintro (e | e);exact absurd (e ▸ hP.lt) (by have := h.lt;omega);exact absurd (e ▸ hO.lt) (by have := ho.lt;omega))
       have eB0 : But (fun k => k = p ∨ k = o ∨ k = s) w w3 := ((But.of_below (S := fun k => k = p ∨ k = o ∨ k = s) (hbW.drew.trans (hb2.mono hbW.drew.size))).trans (eB.more fun i hi => hi.elim Or.inl fun e => Or.inr (Or.inl e)))
       clear ht3 hSp hP2 hO2 x2 eB1 eB2 hM2 hb2 hLen u0 v0 v1 v2 v3 v4 v5 v6 v7 v8 v9 v10 v11
       go_wp2
       go_meet
       exact ⟨rfl, hO3, hP3, hS3, hM3, hF3, eB0⟩)
  case rest =>
    obtain ⟨rfl, hO3, hP3, hS3, hM3, hF3, eB0⟩ := hcut
    clear u0 v0 v1 v2 v3 v4 v5 v6 v7 v8 v9 v10 v11 hLen hP hS hO hM hF hbW
    have k1 := one_get hM3
    have k2 := one_get (show PMap Tryz.prog 3 wc.drew m [(1, s)] from hM3.block rfl)
    have y11 : wc.cell? ⟨p, 11, none⟩ = some (.map (some m)) := (hP3.cell 11).trans (by simpa using h11)
    have hadd : ∀ w' : World, (Op.stringOp .add ⟨b.toArray⟩ ⟨l.toArray⟩).run Tryz.prog w' = .ok (S (b ++ l)) w' := fun w' => by
      rw [run_string_add_sum (P := Tryz.prog) (w := w') ⟨b.toArray⟩ ⟨l.toArray⟩ (by simp [ByteArray.size];omega), ba_append]
    have u1 : wc.drew.cell? ⟨w.heap.size + 1, 1, none⟩ = some (.int .i64 0) := hF3.drew.cell 1
    have u2 : wc.cell? ⟨w.heap.size + 1, 2, none⟩ = some (.int .i64 1) := hF3.cell 2
    have bt : bits .and .i64 0 1 = 0 := by decide
    go_upto_region 6 with fail
    go_cut [6] (fun s6 wx => s6 = Ptr s ∧ wc.drew = wx)
    case first =>
      go_wp2
      go_region
      all_goals (go_wp2;go_meet;exact ⟨rfl, rfl⟩)
    case rest =>
      obtain ⟨rfl, rfl⟩ := hcut
      have hS4 := hS3.drew (w := wc)
      have hF4 := hF3.drew
      have hP4 := hP3.drew
      have hO4 : OM wc.drew o (x - l.length) := hO3
      have eB4 := eB0.drew
      clear hS3 hF3 hP3 hO3 eB0 hM3 k1 k2 y11 u2
      generalize wc.drew = w4 at *
      have u3 : w4.cell? ⟨w.heap.size + 1, 3, none⟩ = some (S l) := hF4.cell 3
      have q3 : w4.cell? ⟨s, 3, none⟩ = some (S b) := (hS4.cell 3).trans s3
      have f3 : w4.frozen? ⟨s, 3, none⟩ = false := hS4.free 3
      go_upto_region 8 with fail
      go_cut [7] (fun s7 wx => s7 = .bool false ∧ (w4.setCell ⟨s, 3, none⟩ (S (b ++ l))).drew = wx)
      case first =>
        go_region
        all_goals (go_wp2;go_meet)
        all_goals exact ⟨rfl, rfl⟩
      case rest =>
        obtain ⟨rfl, hw⟩ := hcut
        have hS5 := (hS4.set 3 (S (b ++ l))).drew
        have eB5 := (eB4.setCell (p := ⟨s, 3, none⟩) (Or.inl (Or.inr (Or.inr rfl))) (S (b ++ l))).drew
        have hP5 := (hP4.other (p := ⟨s, 3, none⟩) (fun e => hps e.symm) (S (b ++ l))).drew
        have hO5 := hO4.block (w' := (w4.setCell ⟨s, 3, none⟩ (S (b ++ l))).drew) (Below.heap_setCell _ _ _ _ hos)
        rw [hw] at hS5 eB5 hP5 hO5
        clear hw
        have q9 : wc.cell? ⟨s, 9, none⟩ = some (.bool false) := (hS5.cell 9).trans (by simpa using s9)
        have q4 : wc.cell? ⟨s, 4, none⟩ = some (.bool false) := (hS5.cell 4).trans (by simpa using s4)
        have f4 : wc.frozen? ⟨s, 4, none⟩ = false := hS5.free 4
        have q4' : wc.drew.cell? ⟨s, 4, none⟩ = some (.bool false) := q4
        have f4' : wc.drew.frozen? ⟨s, 4, none⟩ = false := f4
        clear u1 u3 q3 f3
        go_upto_region 9 with fail
        go_cut [67] (fun sx wx => sx = .bool false ∧ wc.drew = wx)
        case first =>
          go_region
          all_goals (go_wp2;go_meet)
          all_goals exact ⟨rfl, rfl⟩
        case rest =>
          obtain ⟨rfl, rfl⟩ := hcut
          go_wp2
          go_ret
          exact ⟨rfl, hP5.drew.other (fun e => hps e.symm) _, hO5.block (Below.heap_setCell _ _ _ _ hos), hS5.drew.set 4 _, eB5.drew.setCell (p := ⟨s, 4, none⟩) (Or.inl (Or.inr (Or.inr rfl))) _⟩

set_option maxRecDepth 100000 in
set_option maxHeartbeats 8000000 in
theorem data_no {p o sc : Nat} {ps : Array Value} {all beg x code la inc dep wt xc xs : Int} {sole xi : Bool} {l : Bytes} {sa : Option Addr} (w : World) (h : Blk w p 97 ps) (h2 : ps[2]? = some (.int .i64 all)) (h3 : ps[3]? = some (.int .i64 beg)) (h4 : ps[4]? = some (.map (some o)))
  (ho : OM w o x) (hl : l.length ≤ 16384) (hn : 0 < l.length)
  (ha : all < l.length ∨ beg + x < l.length) (hb1 : 0 ≤ beg) (hbg2 : beg < 4294967296) (hx1 : -4294967296 < x) (hx2 : x < 4294967296) :
  Calls Tryz.prog 52 #[Ptr p, .agg #[.int .i64 0, .int .i64 0, .int .i64 1, S l, .int .i64 0, .slice sa 0 sc, .int .i64 code, .int .i64 la, .int .i64 inc, .int .i64 dep, .int .i64 wt, .bool sole, .bool xi, .int .i64 xc, .int .i64 xs]] w fun e w' => e = .returned (.int .i64 243) ∧ Below w.heap.size w w' := by
 obtain ⟨W, eW⟩ : ∃ W, W = (w.alloc (.cells #[.int .i64 0, .int .i64 0, .int .i64 1, S l, .int .i64 0, .slice sa 0 sc, .int .i64 code, .int .i64 la, .int .i64 inc, .int .i64 dep, .int .i64 wt, .bool sole, .bool xi, .int .i64 xc, .int .i64 xs] 74)).alloc (.cells #[.int .i64 0, .int .i64 0, .int .i64 1, S l, .int .i64 0, .slice sa 0 sc, .int .i64 code, .int .i64 la, .int .i64 inc, .int .i64 dep, .int .i64 wt, .bool sole] 34) := ⟨_, rfl⟩
 have hbW : Below w.heap.size w W := by rw [eW];exact ((Below.refl _ _).alloc (Nat.le_refl _) _).alloc (by simp) _
 have hF : Blk W (w.heap.size + 1) 34 #[.int .i64 0, .int .i64 0, .int .i64 1, S l, .int .i64 0, .slice sa 0 sc, .int .i64 code, .int .i64 la, .int .i64 inc, .int .i64 dep, .int .i64 wt, .bool sole] := by rw [eW, ← World.size_alloc];exact Blk.new _ _ _
 have hP := h.on hbW
 have hO : OM W o x := ho.block (hbW.block o ho.lt)
 have u0 : W.cell? ⟨w.heap.size + 1, 0, none⟩ = some (.int .i64 0) := hF.cell 0
 have v0 : W.drew.cell? ⟨w.heap.size + 1, 0, none⟩ = some (.int .i64 0) := hF.drew.cell 0
 have v1 : W.drew.cell? ⟨w.heap.size + 1, 1, none⟩ = some (.int .i64 0) := hF.drew.cell 1
 have v2 : W.drew.cell? ⟨w.heap.size + 1, 2, none⟩ = some (.int .i64 1) := hF.drew.cell 2
 have v3 : W.drew.cell? ⟨w.heap.size + 1, 3, none⟩ = some (S l) := hF.drew.cell 3
 have v4 : W.drew.cell? ⟨w.heap.size + 1, 4, none⟩ = some (.int .i64 0) := hF.drew.cell 4
 have v5 : W.drew.cell? ⟨w.heap.size + 1, 5, none⟩ = some (.slice sa 0 sc) := hF.drew.cell 5
 have v6 : W.drew.cell? ⟨w.heap.size + 1, 6, none⟩ = some (.int .i64 code) := hF.drew.cell 6
 have v7 : W.drew.cell? ⟨w.heap.size + 1, 7, none⟩ = some (.int .i64 la) := hF.drew.cell 7
 have v8 : W.drew.cell? ⟨w.heap.size + 1, 8, none⟩ = some (.int .i64 inc) := hF.drew.cell 8
 have v9 : W.drew.cell? ⟨w.heap.size + 1, 9, none⟩ = some (.int .i64 dep) := hF.drew.cell 9
 have v10 : W.drew.cell? ⟨w.heap.size + 1, 10, none⟩ = some (.int .i64 wt) := hF.drew.cell 10
 have v11 : W.drew.cell? ⟨w.heap.size + 1, 11, none⟩ = some (.bool sole) := hF.drew.cell 11
 have hLen := length_dat (st := 1) (code := code) (la := la) (inc := inc) (dep := dep) (wt := wt) (sole := sole) (sa := sa) (sc := sc) l hl W.drew
 go_enter Tryz.func52, Tryz.ntmps52
 go_upto_region 4 with fail
 rw [← eW]
 clear eW
 go_region_with first
  | (go_at_call 85;(with_reducible refine hLen.mono ?_);rintro e w2 ⟨rfl, hb2⟩;have hP2 := hP.drew.on hb2;have hO2 : OM w2 o x := hO.block (hb2.block o hO.lt);have x2 : w2.cell? ⟨w.heap.size + 1, 2, none⟩ = some (.int .i64 1) := (hF.drew.on hb2).cell 2;have hSp := Spend_no (n := l.length) w2 ((hP2.cell 2).trans h2) ((hP2.cell 3).trans h3) ((hP2.cell 4).trans h4) hO2 (by omega) ha hb1 hbg2 hx1 hx2)
  | (go_at_call 86;(with_reducible refine hSp.mono ?_);rintro e w3 ⟨rfl, hb3⟩)
 all_goals go_wp2
 all_goals go_ret
 all_goals exact ⟨rfl, hbW.drew.trans ((hb2.trans (hb3.mono hb2.size)).mono hbW.drew.size)⟩
end Go.Proofs.YtkeeofhjdffhbaaGreatDoor
