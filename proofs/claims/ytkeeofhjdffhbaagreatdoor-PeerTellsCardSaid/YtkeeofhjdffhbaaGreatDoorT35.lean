/- Parts of the proof of pt_root: the texts Hpk9 HpkF. -/
import Derived.Test.YtkeeofhjdffhbaaGreatDoorT34
set_option linter.unusedSimpArgs false
set_option linter.unusedVariables false
set_option linter.unnecessarySimpa false
namespace Go.Proofs.YtkeeofhjdffhbaaGreatDoor
open Go Go.RowKit Go.Dr
/-- a part that is read as one field -/
def PartRun (d t : Nat) (bs : Bytes) (f : F) : Prop := ∀ (r B base : Nat) (l : List F) (cost ch : Int) (rest : Bytes) (w : World), RS w r d B base (bs ++ rest) l cost ch → B ≤ r → r < base → base ≤ w.heap.size → w.cell? ⟨d, 2, none⟩ = some (Ptr t) → d < w.heap.size → d ≠ r → 0 ≤ cost → cost ≤ 1099511627776 → l.length ≤ 100000 →
 Calls Tryz.prog 118 #[Ptr r] w fun e w' => e = .returned (.tuple #[]) ∧ RS w' r d B base rest (l ++ [f]) (cost + fcost f) ch ∧ But (fun k => k = r ∨ base ≤ k) w w'
end Go.Proofs.YtkeeofhjdffhbaaGreatDoor
namespace Go.Proofs.YtkeeofhjdffhbaaGreatDoor
open Go Go.RowKit Go.Dr
abbrev fStat : F := ⟨[58, 115, 116, 97, 116, 117, 115], [50, 48, 48], false⟩
abbrev fAb : F := ⟨[97], [98], false⟩
abbrev blkAb : Bytes := [136, 64, 1, 97, 1, 98]
theorem run_136 (d t : Nat) : PartRun d t [136] fStat := fun r B base l cost ch rest w hS h1 h2 h3 h4 h5 h6 h7 h8 h9 =>
 Part_row 8 136 rest l fStat (by decide) (by decide) (by decide) w hS h1 h2 h3 h4 h5 h6 (by decide) (by decide) h7 h8 h9 (fun w a b c d => Row_eight w a b c d)
set_option maxRecDepth 100000 in
set_option maxHeartbeats 8000000 in
theorem Decode_ab {d t : Nat} {tab lst : Int} {m1 m2 : Nat} (v : Value) (hlst : 76 ≤ lst) (w : World) (hD : Blk w d 163 #[.int .i64 tab, .int .i64 lst, Ptr t, .bool false]) (hT : Blk w t 210 #[.int .i64 4096, .int .i64 0, .slice none 0 0, .int .i64 0, .map (some m1), .map (some m2)]) (g1 : w.heap[m1]? = some (.map #[] 0)) (g2 : w.heap[m2]? = some (.map #[] 0)) (g12 : m1 ≠ m2) (h : By w.heap.size w v blkAb) :
  Calls Tryz.prog 88 #[Ptr d, v] w fun e w' => (∃ a c, e = .returned (.tuple #[.slice a 2 c, .int .i64 0]) ∧ w'.ownsRow w.heap.size 41 3 (.slice a 2 c) 2 (fcells [fStat, fAb])) ∧ (∃ a c, Blk w' t 210 #[.int .i64 4096, .int .i64 34, .slice a 1 c, .int .i64 0, .map (some m1), .map (some m2)] ∧ w'.ownsRow w.heap.size 274 2 (.slice a 1 c) 1 abC.toList) ∧ But (fun k => k = t ∨ k = m1 ∨ k = m2) w w' := by
 have hmf : ∀ (fn : Fn) (first cap : Array Value) (w : World), (Instr.makeFunc fn first cap).run Tryz.prog w = .ok (.func fn first cap) w := fun _ _ _ _ => rfl
 have hdl := hD.lt
 have htl := hT.lt
 have hl1 := lt_of_block g1
 have hl2 := lt_of_block g2
 have q1 : m1 ≠ d := mblk g1 hD
 have q2 : m2 ≠ d := mblk g2 hD
 have htd : t ≠ d := fun e => by have a := kd_blk hT;rw [e, kd_blk hD] at a;exact absurd a (by decide)
 obtain ⟨av, cv, rfl, hcv, hcm⟩ := h.form
 have hrefl := Below.refl w.heap.size w
 obtain ⟨W, eW⟩ : ∃ W, W = ((w.alloc (.cells #[Ptr d] 94)).alloc (.cells #[.slice none 0 0] 42)).alloc (.cells #[.int .i64 0] 27) := ⟨_, rfl⟩
 have hb : Below w.heap.size w W := by rw [eW];exact ((hrefl.alloc (Nat.le_refl _) _).alloc (by simp) _).alloc (by simp;omega) _
 have hA : Blk W w.heap.size 94 #[Ptr d] := by rw [eW];exact ((Blk.new w _ _).alloc _).alloc _
 have hB : Blk W (w.heap.size + 1) 42 #[.slice none 0 0] := by rw [eW];exact (bnew_at (w.alloc (.cells #[Ptr d] 94)) _ _ _ (by simp)).alloc _
 have hC : Blk W (w.heap.size + 1 + 1) 27 #[.int .i64 0] := by rw [eW];exact bnew_at ((w.alloc (.cells #[Ptr d] 94)).alloc (.cells #[.slice none 0 0] 42)) _ _ _ (by simp)
 have hz : W.heap.size = w.heap.size + 3 := by rw [eW];simp
 have hDW := hD.on hb
 have d3 : W.cell? ⟨d, 3, none⟩ = some (.bool false) := hDW.cell 3
 have a0 : W.cell? ⟨w.heap.size, 0, none⟩ = some (Ptr d) := hA.cell 0
 have n1 : w.heap.size + 3 ≠ w.heap.size := by omega
 obtain ⟨W1, eW1⟩ : ∃ W1, W1 = W.alloc (.cells #[Ptr d, .slice av blkAb.length cv, .slice none 0 0, .int .i64 0, .int .i64 0] 219) := ⟨_, rfl⟩
 have hb1 : Below W.heap.size W W1 := by rw [eW1];exact (Below.refl _ _).alloc (Nat.le_refl _) _
 have hR1 : Blk W1 (w.heap.size + 3) 219 #[Ptr d, .slice av blkAb.length cv, .slice none 0 0, .int .i64 0, .int .i64 0] := by rw [eW1];exact bnew_at W _ _ _ hz
 have hD1 := hDW.on hb1
 have h1 := (h.below hb).below (hb1.mono (by omega))
 have hdR : d ≠ w.heap.size + 3 := by omega
 have hw1 : Below w.heap.size w W1 := hb.trans (hb1.mono (by omega))
 have hT1 := hT.on hw1
 have k1 := obj_below g1 hw1 hl1
 have k2 := obj_below g2 hw1 hl2
 have hA1 := hA.on hb1
 have hB1 := hB.on hb1
 have hC1 := hC.on hb1
 have hz1 : w.heap.size + 4 ≤ W1.heap.size := by have := hR1.lt;omega
 have hS1 : RS W1 (w.heap.size + 3) d w.heap.size (w.heap.size + 4) ([136] ++ [64, 1, 97, 1, 98]) [] 0 0 := ⟨_, _, hR1, h1, World.ownsRow_nil _ _ _ _⟩
 have hP1 := (run_136 d t) (w.heap.size + 3) w.heap.size (w.heap.size + 4) [] 0 0 [64, 1, 97, 1, 98] W1 hS1 (by omega) (by omega) hz1 (hD1.cell 2) (Nat.lt_of_lt_of_le hdl (by omega)) hdR (by omega) (by omega) (by simp)
 have r1 : W1.cell? ⟨w.heap.size + 3, 1, none⟩ = some (.slice av 6 cv) := hR1.cell 1
 go_enter_defers Tryz.func88, Tryz.ntmps88
 go_upto_region 1 with fail
 rw [← eW]
 clear eW
 go_upto_region 5 with fail
 refine wp_cut (R := fun X => X = W1) eW1.symm ?_
 rintro X rfl
 clear eW1 hz
 refine wp_loop_rounds 3 ?_
 rw [rounds_succ]
 go_wp2_with (go_at_call 118;go_must ((with_reducible refine hP1.mono ?_);rintro e w2 ⟨rfl, hS2, hb2⟩))
 have kp : ∀ {g : Nat} {o : Obj}, X.heap[g]? = some o → g < w.heap.size + 3 → w2.heap[g]? = some o := fun {g o} ho hg => (hb2.block g (lt_of_block ho) (by omega)).trans ho
 have hA2 : Blk w2 _ _ _ := kp hA1 (by omega)
 have hB2 : Blk w2 _ _ _ := kp hB1 (by omega)
 have hC2 : Blk w2 _ _ _ := kp hC1 (by omega)
 have hD2 : Blk w2 _ _ _ := kp hD1 (by omega)
 have hT2 : Blk w2 _ _ _ := kp hT1 (by omega)
 have k12 := kp k1 (by omega)
 have k22 := kp k2 (by omega)
 have hz2 : w.heap.size + 4 ≤ w2.heap.size := Nat.le_trans hz1 hb2.size
 have fc1 : fcost fStat = 42 := rfl
 have fc2 : fcost fAb = 34 := rfl
 have hS2' : RS w2 (w.heap.size + 3) d w.heap.size (w.heap.size + 4) (64 :: 1 :: 97 :: 1 :: 98 :: []) ([] ++ [fStat]) (0 + fcost fStat) 0 := hS2
 have hP2 := Part_add [] ([] ++ [fStat]) w2 hS2' (by omega) (by omega) hz2 hD2 hT2 k12 k22 g12 hdR (by omega) (by omega) (by omega) (by omega) (by omega) (by omega) (by simp)
 obtain ⟨v2, fv2, hR2, hBy2, ho2⟩ := hS2'
 obtain ⟨a2, c2, rfl, -, -⟩ := hBy2.form
 have r2 : w2.cell? ⟨w.heap.size + 3, 1, none⟩ = some (.slice a2 5 c2) := hR2.cell 1
 clear hS2 hBy2 hR2 ho2
 rw [rounds_succ]
 go_wp2_with (go_at_call 118;go_must ((with_reducible refine hP2.mono ?_);rintro e w3 ⟨rfl, hS3, hT3, hb3⟩))
 have kp3 : ∀ {g : Nat} {o : Obj}, w2.heap[g]? = some o → g < w.heap.size + 3 → g ≠ t → g ≠ m1 → g ≠ m2 → w3.heap[g]? = some o := fun {g o} ho hg e1 e2 e3 => (hb3.block g (lt_of_block ho) (by omega)).trans ho
 have hA3 : Blk w3 _ _ _ := kp3 hA2 (by omega) (by omega) (by omega) (by omega)
 have hB3 : Blk w3 _ _ _ := kp3 hB2 (by omega) (by omega) (by omega) (by omega)
 have hC3 : Blk w3 _ _ _ := kp3 hC2 (by omega) (by omega) (by omega) (by omega)
 have hD3 : Blk w3 _ _ _ := kp3 hD2 (by omega) htd.symm q1.symm q2.symm
 obtain ⟨v3, fv3, hR3, hBy3, ho3⟩ := hS3
 obtain ⟨a3, c3, rfl, -, -⟩ := hBy3.form
 obtain ⟨fa, fc, rfl⟩ := own_form ho3
 have x1 : w3.cell? ⟨w.heap.size + 3, 1, none⟩ = some (.slice a3 0 c3) := hR3.cell 1
 have x2 : w3.cell? ⟨w.heap.size + 3, 2, none⟩ = some (.slice fa 2 fc) := hR3.cell 2
 have x3 : w3.cell? ⟨w.heap.size + 3, 3, none⟩ = some (.int .i64 76) := hR3.cell 3
 have xa : w3.cell? ⟨w.heap.size, 0, none⟩ = some (Ptr d) := hA3.cell 0
 have xb : w3.cell? ⟨w.heap.size + 1, 0, none⟩ = some (.slice none 0 0) := hB3.cell 0
 have xc : w3.cell? ⟨w.heap.size + 1 + 1, 0, none⟩ = some (.int .i64 0) := hC3.cell 0
 have fb := hB3.free 0
 have fcc := hC3.free 0
 have xd : w3.cell? ⟨d, 1, none⟩ = some (.int .i64 lst) := hD3.cell 1
 have hq : ¬ lst < 76 := by omega
 clear fc1 fc2
 rw [rounds_succ]
 go_wp2
 go_region
 go_wp2
 refine leaves_cons (f := 117) (args := #[.pointer (some ⟨w.heap.size, 0, none⟩), .pointer (some ⟨w.heap.size + 1, 0, none⟩), .pointer (some ⟨w.heap.size + 1 + 1, 0, none⟩)]) (by simp) (by simp [go_sem]) ?_
 refine (catch_idle _ _ _ _).mono ?_
 rintro e u' w'' ⟨rfl, rfl, rfl⟩
 obtain ⟨Wf, eWf⟩ : ∃ Wf, Wf = ((w3.setCell ⟨w.heap.size + 1, 0, none⟩ (.slice fa 2 fc)).setCell ⟨w.heap.size + 1 + 1, 0, none⟩ (.int .i64 0)).drew := ⟨_, rfl⟩
 rw [← eWf]
 have hBf : Blk Wf (w.heap.size + 1) 42 #[.slice fa 2 fc] := by rw [eWf];exact ((hB3.set 0 _).other (by simp) _).drew
 have hCf : Blk Wf (w.heap.size + 1 + 1) 27 #[.int .i64 0] := by rw [eWf];exact ((hC3.other (by simp) _).set 0 _).drew
 obtain ⟨ta, tc, hT3, ht3⟩ := hT3
 have hTf : Blk Wf t 210 #[.int .i64 4096, .int .i64 34, .slice ta 1 tc, .int .i64 0, .map (some m1), .map (some m2)] := by rw [eWf];exact ((hT3.other (p := ⟨w.heap.size + 1, 0, none⟩) (by show t ≠ w.heap.size + 1;omega) _).other (p := ⟨w.heap.size + 1 + 1, 0, none⟩) (by show t ≠ w.heap.size + 1 + 1;omega) _).drew
 have own2 : ∀ {e : TypeId} {size n : Nat} {v : Value} {xs : List Value}, w3.ownsRow (w.heap.size + 4) e size v n xs → Wf.ownsRow w.heap.size e size v n xs := fun ho => by
  rw [eWf]
  have q1 := ownsRow_setCell_below (a := ⟨w.heap.size + 1, 0, none⟩) ho (by show w.heap.size + 1 < w.heap.size + 4;omega) (.slice fa 2 fc)
  have q2 := ownsRow_setCell_below (a := ⟨w.heap.size + 1 + 1, 0, none⟩) q1 (by show w.heap.size + 1 + 1 < w.heap.size + 4;omega) (.int .i64 0)
  exact own_dr (own_base q2 (by omega))
 have hof := own2 ho3
 have htf := own2 ht3
 have hbf : But (fun k => k = t ∨ k = m1 ∨ k = m2) w Wf := by
  rw [eWf]
  refine But.drew (But.setCell (But.setCell ?_ (p := ⟨w.heap.size + 1, 0, none⟩) (.inr (by simp)) _) (p := ⟨w.heap.size + 1 + 1, 0, none⟩) (.inr (by simp;omega)) _)
  have h1 := ((But.of_below (S := fun k => k = t ∨ k = m1 ∨ k = m2 ∨ w.heap.size ≤ k) hw1).trans (hb2.more fun k hk => by rcases hk with e | e <;> exact .inr (.inr (.inr (by omega))))).trans (hb3.more fun k hk => by
   rcases hk with e | e | e | e | e
   ·exact .inr (.inr (.inr (by omega)))
   ·exact .inl e
   ·exact .inr (.inl e)
   ·exact .inr (.inr (.inl e))
   ·exact .inr (.inr (.inr (by omega))))
  exact ⟨h1.os, h1.tape, h1.output, h1.size, fun i hi hS => h1.block i hi (by intro e;rcases e with e | e | e | e;exact hS (.inl e);exact hS (.inr (.inl e));exact hS (.inr (.inr e));omega)⟩
 have z1 : Wf.cell? ⟨w.heap.size + 1, 0, none⟩ = some (.slice fa 2 fc) := hBf.cell 0
 have z2 : Wf.cell? ⟨w.heap.size + 1 + 1, 0, none⟩ = some (.int .i64 0) := hCf.cell 0
 clear eWf
 simp only [Leaves, settle]
 refine ⟨.tuple #[.slice fa 2 fc, .int .i64 0], ?_, ⟨fa, fc, rfl, hof⟩, ⟨ta, tc, hTf, htf⟩, hbf⟩
 simp [results, Tryz.results88, go_sem, z1, z2]
end Go.Proofs.YtkeeofhjdffhbaaGreatDoor
