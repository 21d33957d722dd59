/- Parts of the proof of pt_root: the texts PtC PtD. -/
import Derived.Test.YtkeeofhjdffhbaaGreatDoorT37
set_option linter.unusedSimpArgs false
set_option linter.unusedVariables false
set_option linter.unnecessarySimpa false
namespace Go.Proofs.YtkeeofhjdffhbaaGreatDoor
open Go Go.RowKit Go.Dr
/-- what is told of a stream whose answer began with a field -/
abbrev sd2 (fv : Value) (b : Bytes) (e : Bool) : Array Value := #[.int .i64 1, .int .i64 200, fv, S b, .bool e, .bool false, .int .i64 0, .int .i64 1, .int .i64 0, .bool false]
set_option maxRecDepth 100000 in
set_option maxHeartbeats 4000000 in
theorem says_ab {p s B c : Nat} {a : Option Addr} {ps : Array Value} {ends : Bool} (w : World) (hP : Blk w p 97 ps) (h12 : ps[12]? = some (.slice none 0 0)) (h15 : ps[15]? = some (.bool ends)) (hS : Blk w s 118 sd0) (hps : s ≠ p) (hpB : p < B) (hsB : s < B) (h : w.ownsRow B 41 3 (.slice a 2 c) 2 (fcells [fStat, fAb])) :
  Calls Tryz.prog 90 #[Ptr p, Ptr s, .slice a 2 c] w fun e w' => e = .returned (.int .i64 0) ∧ (∃ a' c', Blk w' p 97 (ps.setIfInBounds 12 (.slice a' 1 c')) ∧ w'.ownsRow w.heap.size 3 1 (.slice a' 1 c') 1 [.int .i64 1]) ∧ (∃ fa fc, Blk w' s 118 (sd2 (.slice fa 1 fc) [] ends) ∧ w'.ownsRow w.heap.size 41 3 (.slice fa 1 fc) 1 abF.toList) ∧ But (fun k => k = p ∨ k = s) w w' := by
 have y7 : w.cell? ⟨s, 7, none⟩ = some (.int .i64 0) := hS.cell 7
 have f7 := hS.free 7
 have h1 := ownsRow_setCell_below (a := ⟨s, 7, none⟩) h hsB (.int .i64 1)
 have hS1 := hS.set 7 (.int .i64 1)
 have hP1 := hP.other (p := ⟨s, 7, none⟩) (fun e => hps e.symm) (.int .i64 1)
 have hb1 : But (fun k => k = p ∨ k = s) w (w.setCell ⟨s, 7, none⟩ (.int .i64 1)) := (But.refl _ _).setCell (p := ⟨s, 7, none⟩) (.inl (.inr rfl)) _
 have y7' : (w.setCell ⟨s, 7, none⟩ (.int .i64 1)).cell? ⟨s, 7, none⟩ = some (.int .i64 1) := hS1.cell 7
 obtain ⟨W1, eW1⟩ : ∃ W1, W1 = w.setCell ⟨s, 7, none⟩ (.int .i64 1) := ⟨_, rfl⟩
 rw [← eW1] at h1 hS1 hP1 hb1 y7'
 have hR := ReadAnswer_ab W1 h1
 go_enter Tryz.func90, Tryz.ntmps90
 go_upto_region 2 with fail
 rw [← eW1]
 clear eW1
 go_upto_region 12 with (go_at_call 121;go_must ((with_reducible refine hR.mono ?_);rintro e w2 ⟨⟨fa, fc, rfl, hr2⟩, hb2⟩;have hS2 := hS1.on hb2;have hP2 := hP1.on hb2;have c1 : w2.cell? ⟨s, 1, none⟩ = some (.int .i64 0) := hS2.cell 1;have c2 : w2.cell? ⟨s, 2, none⟩ = some (.slice none 0 0) := hS2.cell 2;have c4 : w2.cell? ⟨s, 4, none⟩ = some (.bool false) := hS2.cell 4;have f1 := hS2.free 1;have f2 := hS2.free 2;have f4 := hS2.free 4;have c15 : w2.cell? ⟨p, 15, none⟩ = some (.bool ends) := (hP2.cell 15).trans h15))
 have hsw := hS.lt
 have hw1 : w.heap.size ≤ W1.heap.size := hb1.size
 obtain ⟨W2, eW2⟩ : ∃ W2, W2 = ((w2.setCell ⟨s, 1, none⟩ (.int .i64 200)).setCell ⟨s, 2, none⟩ (.slice fa 1 fc)).setCell ⟨s, 4, none⟩ (.bool ends) := ⟨_, rfl⟩
 have hb2' : But (fun k => k = p ∨ k = s) w W2 := by rw [eW2];exact (((hb1.trans (But.of_below hb2)).setCell (p := ⟨s, 1, none⟩) (.inl (.inr rfl)) _).setCell (p := ⟨s, 2, none⟩) (.inl (.inr rfl)) _).setCell (p := ⟨s, 4, none⟩) (.inl (.inr rfl)) _
 have hS2' : Blk W2 s 118 (sd2 (.slice fa 1 fc) [] ends) := by rw [eW2];exact ((hS2.set 1 _).set 2 _).set 4 _
 have hP2' : Blk W2 p 97 ps := by rw [eW2];exact ((hP2.other (p := ⟨s, 1, none⟩) (fun e => hps e.symm) _).other (p := ⟨s, 2, none⟩) (fun e => hps e.symm) _).other (p := ⟨s, 4, none⟩) (fun e => hps e.symm) _
 have hr2' : W2.ownsRow w.heap.size 41 3 (.slice fa 1 fc) 1 abF.toList := by
  rw [eW2]
  exact ownsRow_setCell_below (ownsRow_setCell_below (ownsRow_setCell_below (own_base hr2 hw1) hsw _) hsw _) hsw _
 rw [← eW2]
 clear eW2 c1 c2 c4 f1 f2 f4 c15 hS2 hP2 hb2 hR h1 hS1 hP1 hb1 y7' y7 f7 hr2
 go_upto_region 13 with (go_at_call 122;go_must ((with_reducible refine (Length_ab _ hr2').mono ?_);rintro e w3 ⟨rfl, hb3'⟩;have hS3' := hS2'.on hb3';have c8 : w3.cell? ⟨s, 8, none⟩ = some (.int .i64 0) := hS3'.cell 8;have c9 : w3.cell? ⟨s, 9, none⟩ = some (.bool false) := hS3'.cell 9;have f8 := hS3'.free 8;have f9 := hS3'.free 9))
 obtain ⟨W3, eW3⟩ : ∃ W3, W3 = (w3.setCell ⟨s, 8, none⟩ (.int .i64 0)).setCell ⟨s, 9, none⟩ (.bool false) := ⟨_, rfl⟩
 have hb3 : But (fun k => k = p ∨ k = s) w W3 := by rw [eW3];exact ((hb2'.trans (But.of_below hb3')).setCell (p := ⟨s, 8, none⟩) (.inl (.inr rfl)) _).setCell (p := ⟨s, 9, none⟩) (.inl (.inr rfl)) _
 have hS3 : Blk W3 s 118 (sd2 (.slice fa 1 fc) [] ends) := by rw [eW3];exact (hS3'.set 8 _).set 9 _
 have hP3 : Blk W3 p 97 ps := by rw [eW3];exact ((hP2'.on hb3').other (p := ⟨s, 8, none⟩) (fun e => hps e.symm) _).other (p := ⟨s, 9, none⟩) (fun e => hps e.symm) _
 have hr3 : W3.ownsRow w.heap.size 41 3 (.slice fa 1 fc) 1 abF.toList := by rw [eW3];exact ownsRow_setCell_below (ownsRow_setCell_below (own_below hr2' hb3') hsw _) hsw _
 rw [← eW3]
 clear eW3 c8 c9 f8 f9 hS3' hS2' hP2' hr2' hb2' hb3'
 have x12 : W3.cell? ⟨p, 12, none⟩ = some (.slice none 0 0) := (hP3.cell 12).trans h12
 have x12a : ∀ ob, (W3.alloc ob).cell? ⟨p, 12, none⟩ = some (.slice none 0 0) := fun ob => ((hP3.alloc ob).cell 12).trans h12
 have z0 : W3.cell? ⟨s, 0, none⟩ = some (.int .i64 1) := hS3.cell 0
 have hpl : p < W3.heap.size := hP3.lt
 have hsl : s < W3.heap.size := hS3.lt
 have hwz := hb3.size
 have hwp := hP.lt
 go_region_law (refine step_of ?_ (by rfl);refine wp_appG _ _ 85 rfl w.heap.size 3 (.int .i64 0) 1 8 Tryz.underlying85 (by kernel_rfl) rfl (by decide) _ _ _ rfl (World.ownsRow_nil _ _ _ _) _ _ _ [.int .i64 1] rfl (Rd.drew (Rd.lit W3 3 #[.int .i64 1] 1 1 rfl (by decide))) (by intro u hu;simp at hu;subst hu;rfl) (by decide) (by decide) (by simp;omega) ?_;intro a3 c3 w4 hown3 hb4 hg4;have hP4 := (hP3.alloc (.cells #[.int .i64 1] 3)).drew.below hb4 hwp;have z12 : w4.cell? ⟨p, 12, none⟩ = some (.slice none 0 0) := (hP4.cell 12).trans h12;have zf := hP4.free 12;have hr4 : w4.ownsRow w.heap.size 41 3 (.slice fa 1 fc) 1 abF.toList := own_same hr3 (fun g hg => (hg4.block g (by have := (own_lt hr3 hg).2;simp;omega) (by intro e;have e2 : some g = (none : Option Nat) := e;simp at e2)).trans (Below.heap_alloc W3 _ g (own_lt hr3 hg).2)))
 all_goals (
  go_wp2
  go_ret
  exact ⟨rfl, ⟨a3, c3, hP4.set 12 _, ownsRow_setCell_below hown3 hwp _⟩, ⟨fa, fc, ((((hS3.alloc _).drew).below hb4 (hS.lt))).other (p := ⟨p, 12, none⟩) hps _, ownsRow_setCell_below hr4 hwp _⟩, (but_on ((hb3.alloc _).drew) hb4).setCell (p := ⟨p, 12, none⟩) (.inl (.inl rfl)) _⟩)
end Go.Proofs.YtkeeofhjdffhbaaGreatDoor
namespace Go.Proofs.YtkeeofhjdffhbaaGreatDoor
open Go Go.RowKit Go.Dr
set_option maxRecDepth 100000 in
set_option maxHeartbeats 8000000 in
theorem piece_ab {p fo fi o d m t s sc m1 m2 : Nat} {all beg sets last code la inc dep wt xc xs away bad of0 : Int} {sole xi ends0 : Bool} {sa : Option Addr} {blk0 : Value} (w : World) (h : Blk w p 97 (px fo fi o d m all beg sets last (.slice none 0 0) false of0 ends0 blk0 away bad))
  (hD : Blk w d 163 #[.int .i64 65536, .int .i64 1099511627776, Ptr t, .bool false]) (hT : Blk w t 210 #[.int .i64 4096, .int .i64 0, .slice none 0 0, .int .i64 0, .map (some m1), .map (some m2)]) (g1 : w.heap[m1]? = some (.map #[] 0)) (g2 : w.heap[m2]? = some (.map #[] 0)) (g12 : m1 ≠ m2) (hmm1 : m ≠ m1) (hmm2 : m ≠ m2)
  (hm : PMap Tryz.prog 3 w m [(1, s)]) (hs : Blk w s 118 sd0) :
  Calls Tryz.prog 53 #[Ptr p, .agg #[.int .i64 1, .int .i64 4, .int .i64 1, S blkAb, .int .i64 0, .slice sa 0 sc, .int .i64 code, .int .i64 la, .int .i64 inc, .int .i64 dep, .int .i64 wt, .bool sole, .bool xi, .int .i64 xc, .int .i64 xs]] w fun e w' => e = .returned (.int .i64 0) ∧ (∃ a' c' a2 n2 c2, Blk w' p 97 (px fo fi o d m all beg sets last (.slice a' 1 c') false 0 false (.slice a2 n2 c2) away bad) ∧ w'.ownsRow w.heap.size 3 1 (.slice a' 1 c') 1 [.int .i64 1]) ∧ (∃ fa fc, Blk w' s 118 (sd2 (.slice fa 1 fc) [] false) ∧ w'.ownsRow w.heap.size 41 3 (.slice fa 1 fc) 1 abF.toList) ∧ But (fun k => k = p ∨ k = s ∨ k = t ∨ k = m1 ∨ k = m2) w w' := by
 have htl := hT.lt
 have l1 := lt_of_block g1
 have l2 := lt_of_block g2
 have htp : t ≠ p := fun e => by have a := kd_blk hT;rw [e, kd_blk h] at a;exact absurd a (by decide)
 have hts : t ≠ s := fun e => by have a := kd_blk hT;rw [e, kd_blk hs] at a;exact absurd a (by decide)
 have htd : t ≠ d := fun e => by have a := kd_blk hT;rw [e, kd_blk hD] at a;exact absurd a (by decide)
 have q1p := mblk g1 h
 have q2p := mblk g2 h
 have q1s := mblk g1 hs
 have q2s := mblk g2 hs
 have q1d := mblk g1 hD
 have q2d := mblk g2 hD
 obtain ⟨W, eW⟩ : ∃ W, W = (w.alloc (.cells #[.int .i64 1, .int .i64 4, .int .i64 1, S blkAb, .int .i64 0, .slice sa 0 sc, .int .i64 code, .int .i64 la, .int .i64 inc, .int .i64 dep, .int .i64 wt, .bool sole, .bool xi, .int .i64 xc, .int .i64 xs] 74)).alloc (.cells #[.int .i64 1, .int .i64 4, .int .i64 1, S blkAb, .int .i64 0, .slice sa 0 sc, .int .i64 code, .int .i64 la, .int .i64 inc, .int .i64 dep, .int .i64 wt, .bool sole] 34) := ⟨_, rfl⟩
 have hbW : Below w.heap.size w W := by rw [eW];exact ((Below.refl _ _).alloc (Nat.le_refl _) _).alloc (by simp) _
 have hF : Blk W (w.heap.size + 1) 34 #[.int .i64 1, .int .i64 4, .int .i64 1, S blkAb, .int .i64 0, .slice sa 0 sc, .int .i64 code, .int .i64 la, .int .i64 inc, .int .i64 dep, .int .i64 wt, .bool sole] := by rw [eW, ← World.size_alloc];exact Blk.new _ _ _
 have hP := h.on hbW
 have hS := hs.on hbW
 have hM := pmap_below hm hbW
 have hpl := h.lt
 have hF0 : W.cell? ⟨w.heap.size + 1, 0, none⟩ = some (.int .i64 1) := hF.cell 0
 have hF1 : W.cell? ⟨w.heap.size + 1, 1, none⟩ = some (.int .i64 4) := hF.cell 1
 have hF2 : W.cell? ⟨w.heap.size + 1, 2, none⟩ = some (.int .i64 1) := hF.cell 2
 have y14 : W.cell? ⟨p, 14, none⟩ = some (.int .i64 of0) := hP.cell 14
 have y15 : W.cell? ⟨p, 15, none⟩ = some (.bool ends0) := hP.cell 15
 have y16 : W.cell? ⟨p, 16, none⟩ = some blk0 := hP.cell 16
 have f14 := hP.free 14
 have f15 := hP.free 15
 have f16 := hP.free 16
 have hpF : p ≠ w.heap.size + 1 := by omega
 have hpF' : w.heap.size + 1 ≠ p := by omega
 have bt : bits .and .i64 4 1 = 0 := by decide
 go_enter Tryz.func53, Tryz.ntmps53
 go_upto_region 3 with fail
 rw [← eW]
 clear eW
 go_cut [5] (fun s5 wx => s5 = Ptr (w.heap.size + 1) ∧ Blk wx p 97 (px fo fi o d m all beg sets last (.slice none 0 0) false 1 false (.slice none 0 0) away bad) ∧ But (fun k => k = p) W wx)
 case first =>
  go_region
  all_goals (go_wp2;go_meet)
  all_goals (first | exact ⟨rfl, (((hP.set 14 _).set 15 _).set 16 _).drew, ((((But.refl (fun k => k = p) _).setCell (p := ⟨p, 14, none⟩) (.inl rfl) _).setCell (p := ⟨p, 15, none⟩) (.inl rfl) _).setCell (p := ⟨p, 16, none⟩) (.inl rfl) _).drew⟩ | exact ⟨rfl, (((hP.set 14 _).set 16 _).set 15 _).drew, ((((But.refl (fun k => k = p) _).setCell (p := ⟨p, 14, none⟩) (.inl rfl) _).setCell (p := ⟨p, 16, none⟩) (.inl rfl) _).setCell (p := ⟨p, 15, none⟩) (.inl rfl) _).drew⟩ | exact ⟨rfl, (((hP.set 15 _).set 14 _).set 16 _).drew, ((((But.refl (fun k => k = p) _).setCell (p := ⟨p, 15, none⟩) (.inl rfl) _).setCell (p := ⟨p, 14, none⟩) (.inl rfl) _).setCell (p := ⟨p, 16, none⟩) (.inl rfl) _).drew⟩ | exact ⟨rfl, (((hP.set 15 _).set 16 _).set 14 _).drew, ((((But.refl (fun k => k = p) _).setCell (p := ⟨p, 15, none⟩) (.inl rfl) _).setCell (p := ⟨p, 16, none⟩) (.inl rfl) _).setCell (p := ⟨p, 14, none⟩) (.inl rfl) _).drew⟩ | exact ⟨rfl, (((hP.set 16 _).set 14 _).set 15 _).drew, ((((But.refl (fun k => k = p) _).setCell (p := ⟨p, 16, none⟩) (.inl rfl) _).setCell (p := ⟨p, 14, none⟩) (.inl rfl) _).setCell (p := ⟨p, 15, none⟩) (.inl rfl) _).drew⟩ | exact ⟨rfl, (((hP.set 16 _).set 15 _).set 14 _).drew, ((((But.refl (fun k => k = p) _).setCell (p := ⟨p, 16, none⟩) (.inl rfl) _).setCell (p := ⟨p, 15, none⟩) (.inl rfl) _).setCell (p := ⟨p, 14, none⟩) (.inl rfl) _).drew⟩)
 case rest =>
  obtain ⟨rfl, hP1, hb1⟩ := hcut
  obtain ⟨w1, rfl⟩ : ∃ w1, w1 = wc := ⟨_, rfl⟩
  clear y14 y15 y16 f14 f15 f16 hF0 hF1 hF2
  have hF1 := hF.but hb1 (fun e => hpF' e)
  have g0 : w1.cell? ⟨w.heap.size + 1, 0, none⟩ = some (.int .i64 1) := hF1.cell 0
  have g3 : w1.cell? ⟨w.heap.size + 1, 3, none⟩ = some (S blkAb) := hF1.cell 3
  have y16 : w1.cell? ⟨p, 16, none⟩ = some (.slice none 0 0) := hP1.cell 16
  have hpW : p < W.heap.size := hP.lt
  have hs1 : W.heap.size ≤ w1.heap.size := hb1.size
  go_upto_region 6 with fail
  go_cut [5] (fun s5 wx => s5 = Ptr (w.heap.size + 1) ∧ ∃ a2 c2, Blk wx p 97 (px fo fi o d m all beg sets last (.slice none 0 0) false 1 false (.slice a2 6 c2) away bad) ∧ wx.ownsRow W.heap.size 5 1 (.slice a2 6 c2) 6 (blkAb.map B8) ∧ But (fun k => k = p) W wx)
  case first =>
   go_region_law (refine step_of ?_ (by rfl);refine wp_appStr _ _ 26 9 rfl W.heap.size 5 Tryz.underlying26 Tryz.underlying9 (by kernel_rfl) _ _ _ rfl (World.ownsRow_nil _ _ _ _) blkAb rfl (by decide) hs1 ?_;intro a3 c3 w4 hown3 hb4;have hP4 := hP1.drew.below hb4 hpW;have z16 : w4.cell? ⟨p, 16, none⟩ = some (.slice none 0 0) := hP4.cell 16;have zf := hP4.free 16)
   all_goals (go_wp2;go_meet;exact ⟨rfl, a3, c3, hP4.set 16 _, ownsRow_setCell_below hown3 hpW _, (but_on (hb1.drew) hb4).setCell (p := ⟨p, 16, none⟩) (.inl rfl) _⟩)
  case rest =>
   obtain ⟨rfl, a2, c2, hP2, hr2, hb2⟩ := hcut
   obtain ⟨w2, rfl⟩ : ∃ w2, w2 = wc := ⟨_, rfl⟩
   clear g0 g3 y16 hP1 hb1 hs1 hF1
   have hF2 := hF.but hb2 (fun e => hpF' e)
   have n1 : w2.cell? ⟨w.heap.size + 1, 1, none⟩ = some (.int .i64 4) := hF2.cell 1
   have hmp : m ≠ p := fun e => by
    obtain ⟨es, cl, h5⟩ := hm.obj
    have := (e ▸ h5).symm.trans (show w.heap[p]? = _ from h)
    simp at this
   have hsp : s ≠ p := fun e => by
    have h5 := blk_type (e ▸ hs) h
    revert h5
    decide
   have hdp : d ≠ p := fun e => by
    have h5 := blk_type (e ▸ hD) h
    revert h5
    decide
   have hM2 := hM.block (hb2.block m hM.lt hmp)
   have hS2 := hS.but hb2 hsp
   have hD2 := (hD.on hbW).but hb2 hdp
   have hW1 := hbW.size
   have hT2 := (hT.on hbW).but hb2 htp
   have g12' := (hb2.block m1 (Nat.lt_of_lt_of_le l1 hW1) q1p).trans (obj_below g1 hbW l1)
   have g22' := (hb2.block m2 (Nat.lt_of_lt_of_le l2 hW1) q2p).trans (obj_below g2 hbW l2)
   have k1 := one_get hM2
   have k2 := one_get (show PMap Tryz.prog 3 w2.drew m [(1, s)] from hM2.block rfl)
   have y11 : w2.cell? ⟨p, 11, none⟩ = some (.map (some m)) := hP2.cell 11
   have y14 : w2.cell? ⟨p, 14, none⟩ = some (.int .i64 1) := hP2.cell 14
   have f14 := hP2.free 14
   go_upto_region 9 with fail
   go_cut [6] (fun s6 wx => s6 = Ptr s ∧ w2.drew = wx)
   case first =>
    go_region
    all_goals (go_wp2;go_meet;exact ⟨rfl, rfl⟩)
   case rest =>
    obtain ⟨rfl, rfl⟩ := hcut
    have q14 : w2.drew.cell? ⟨p, 14, none⟩ = some (.int .i64 1) := y14
    have qf14 : w2.drew.frozen? ⟨p, 14, none⟩ = false := f14
    have hP3 := (hP2.set 14 (.int .i64 0)).drew
    have hS3 := (hS2.other (p := ⟨p, 14, none⟩) hsp (.int .i64 0)).drew
    have hD3 := (hD2.other (p := ⟨p, 14, none⟩) hdp (.int .i64 0)).drew
    have hb3 := (hb2.setCell (p := ⟨p, 14, none⟩) (.inl rfl) (.int .i64 0)).drew
    have hT3 := (hT2.other (p := ⟨p, 14, none⟩) htp (.int .i64 0)).drew
    have g13 : (w2.setCell ⟨p, 14, none⟩ (.int .i64 0)).drew.heap[m1]? = some (.map #[] 0) := (Below.heap_setCell _ _ _ _ q1p).trans g12'
    have g23 : (w2.setCell ⟨p, 14, none⟩ (.int .i64 0)).drew.heap[m2]? = some (.map #[] 0) := (Below.heap_setCell _ _ _ _ q2p).trans g22'
    have hr3 := own_dr (ownsRow_setCell_below (a := ⟨p, 14, none⟩) hr2 hpW (.int .i64 0))
    obtain ⟨w3, e3⟩ : ∃ w3, w3 = (w2.setCell ⟨p, 14, none⟩ (.int .i64 0)).drew := ⟨_, rfl⟩
    rw [← e3] at hP3 hS3 hD3 hb3 hr3 hT3 g13 g23
    go_upto_region 11 with fail
    rw [← e3]
    clear e3 q14 qf14 y14 f14 y11 k1 k2 hM2 n1 hF2 hT2 g12' g22' hD2 hS2 hP2 hr2
    have x5 : w3.cell? ⟨p, 5, none⟩ = some (Ptr d) := hP3.cell 5
    have x5' : w3.drew.cell? ⟨p, 5, none⟩ = some (Ptr d) := hP3.cell 5
    have x16 : w3.cell? ⟨p, 16, none⟩ = some (.slice a2 6 c2) := hP3.cell 16
    have x16' : w3.drew.cell? ⟨p, 16, none⟩ = some (.slice a2 6 c2) := hP3.cell 16
    have hDe := Decode_ab (.slice a2 6 c2) (by decide) w3.drew hD3.drew hT3.drew g13 g23 g12 (Rd.own (own_dr hr3))
    go_cut [7, 8] (fun s7 s8 wx => ∃ a1 c1, s7 = .slice a1 2 c1 ∧ s8 = .int .i64 0 ∧ wx.ownsRow w3.heap.size 41 3 (.slice a1 2 c1) 2 (fcells [fStat, fAb]) ∧ Tab1 wx t ∧ But (fun k => k = t ∨ k = m1 ∨ k = m2) w3 wx)
    case first =>
     go_region_with (go_at_call 88;(with_reducible refine hDe.mono ?_);rintro e w4 ⟨⟨a1, c1, rfl, hr4⟩, ⟨ta, tc, hT4, hrow4⟩, hb4⟩)
     all_goals (go_wp2;go_meet)
     all_goals exact ⟨a1, c1, rfl, rfl, hr4, Tab1.of hT4 hrow4, (But.refl _ w3).drew.trans hb4⟩
    case rest =>
     obtain ⟨a1, c1, rfl, rfl, hr4, hT4, hb4⟩ := hcut
     obtain ⟨w4, rfl⟩ : ∃ w4, w4 = wc := ⟨_, rfl⟩
     clear hDe x5 x5' x16 x16' hr3
     have hP4 := hP3.but hb4 (by rintro (e | e | e);exact htp e.symm;exact q1p e.symm;exact q2p e.symm)
     have hS4 := hS3.but hb4 (by rintro (e | e | e);exact hts e.symm;exact q1s e.symm;exact q2s e.symm)
     have hD4 := hD3.but hb4 (by rintro (e | e | e);exact htd e.symm;exact q1d e.symm;exact q2d e.symm)
     have x7 : w4.cell? ⟨p, 7, none⟩ = some (.int .i64 4096) := hP4.cell 7
     have x7' : w4.drew.cell? ⟨p, 7, none⟩ = some (.int .i64 4096) := hP4.cell 7
     have hRo := rows_one (p := p) (d := d) (t := t) w4 (hP4.cell 5) (hD4.cell 2) hT4
     have hRo' := rows_one (p := p) (d := d) (t := t) w4.drew (hP4.cell 5) (hD4.cell 2) (hT4.on (Below.refl _ _).drew)
     go_upto_region 12 with fail
     go_cut [85] (fun sx wx => sx = .bool false ∧ Below w4.heap.size w4 wx)
     case first =>
      go_region_with (first
       | (go_at_call 89;(with_reducible refine hRo'.mono ?_);rintro e w5 ⟨rfl, hb5⟩;replace hb5 : Below w4.heap.size w4 w5 := (Below.refl _ _).drew.trans hb5;have x75 : w5.cell? ⟨p, 7, none⟩ = some (.int .i64 4096) := (hP4.on hb5).cell 7)
       | (go_at_call 89;(with_reducible refine hRo.mono ?_);rintro e w5 ⟨rfl, hb5⟩;have x75 : w5.cell? ⟨p, 7, none⟩ = some (.int .i64 4096) := (hP4.on hb5).cell 7))
      all_goals (go_wp2;go_meet;exact ⟨rfl, by first | exact hb5 | exact hb5.drew⟩)
     case rest =>
      obtain ⟨rfl, hb5⟩ := hcut
      obtain ⟨w5, rfl⟩ : ∃ w5, w5 = wc := ⟨_, rfl⟩
      have hSa := says_ab (ends := false) w5 (hP4.on hb5) rfl rfl (hS4.on hb5) hsp (Nat.lt_of_lt_of_le hpW hb3.size) hS3.lt (own_below hr4 hb5)
      go_upto_region 14 with fail
      go_wp2_with (go_at_call 90;(with_reducible refine hSa.mono ?_);rintro e w6 ⟨rfl, ⟨a', c', hP6, hr6⟩, ⟨fa, fc, hS6, hf6⟩, hb6⟩)
      go_ret
      have hb03 : But (fun k => k = p ∨ k = s ∨ k = t ∨ k = m1 ∨ k = m2) w w3 := (But.of_below hbW).trans (hb3.more fun k hk => .inl hk)
      have hb04 := hb03.trans (hb4.more fun k hk => .inr (.inr hk))
      have hz5 : w.heap.size ≤ w5.heap.size := Nat.le_trans hb04.size hb5.size
      exact ⟨rfl, ⟨a', c', a2, 6, c2, hP6, own_base hr6 hz5⟩, ⟨fa, fc, hS6, own_base hf6 hz5⟩, (hb04.trans (But.of_below hb5)).trans (hb6.more fun k hk => by rcases hk with e | e;exact .inl e;exact .inr (.inl e))⟩
end Go.Proofs.YtkeeofhjdffhbaaGreatDoor
