/- Parts of the proof of pt_root: the texts PtB. -/
import Derived.Test.YtkeeofhjdffhbaaGreatDoorT36
set_option linter.unusedSimpArgs false
set_option linter.unusedVariables false
set_option linter.unnecessarySimpa false
namespace Go.Proofs.YtkeeofhjdffhbaaGreatDoor
open Go Go.RowKit Go.Dr
abbrev abF : Array Value := #[S [97], S [98], .bool false]
set_option maxRecDepth 100000 in
set_option maxHeartbeats 4000000 in
theorem Token_a (w : World) : Calls Tryz.prog 222 #[S [97]] w fun e w' => e = .returned (.bool true) ∧ w' = w := by
 go_enter Tryz.func222, Tryz.ntmps222
 go_wp2
 refine wp_loop_rounds 2 ?_
 rw [rounds_succ]
 go_wp2
 rw [rounds_succ]
 go_wp2
 go_ret
 exact ⟨rfl, rfl⟩
set_option maxRecDepth 100000 in
set_option maxHeartbeats 4000000 in
theorem Value_b (w : World) : Calls Tryz.prog 223 #[S [98]] w fun e w' => e = .returned (.bool true) ∧ Below w.heap.size w w' := by
 have hT : Calls Tryz.prog 235 #[S [98]] w fun e w' => e = .returned (S [98]) ∧ Below w.heap.size w w' := Trim_any [98] w (by decide)
 go_enter Tryz.func223, Tryz.ntmps223
 go_wp2_with (go_at_call 235;go_must ((with_reducible refine hT.mono ?_);rintro e w2 ⟨rfl, hb⟩))
 refine wp_loop_rounds 2 ?_
 rw [rounds_succ]
 go_wp2
 rw [rounds_succ]
 go_wp2
 go_ret
 exact ⟨rfl, hb⟩
set_option maxRecDepth 100000 in
set_option maxHeartbeats 4000000 in
theorem OfConn_a (w : World) : Calls Tryz.prog 224 #[S [97]] w fun e w' => e = .returned (.bool false) ∧ w' = w := by
 go_enter Tryz.func224, Tryz.ntmps224
 go_wp2
 go_ret
 exact ⟨rfl, rfl⟩
set_option maxRecDepth 100000 in
set_option maxHeartbeats 4000000 in
theorem Pseudo_ab (w : World) : Calls Tryz.prog 209 #[.agg abF] w fun e w' => e = .returned (.bool false) ∧ Below w.heap.size w w' := by
 go_enter Tryz.func209, Tryz.ntmps209
 go_wp2
 go_ret
 exact ⟨rfl, (Below.refl _ _).alloc (Nat.le_refl _) _⟩
set_option maxRecDepth 100000 in
set_option maxHeartbeats 4000000 in
theorem Plain_ab (w : World) : Calls Tryz.prog 210 #[.agg abF] w fun e w' => e = .returned (.bool true) ∧ Below w.heap.size w w' := by
 have hLo : ∀ w, Calls Tryz.prog 99 #[S [97]] w fun e w' => e = .returned (S [97]) ∧ Below w.heap.size w w' := fun w => Lower_any [97] w (by decide)
 obtain ⟨W, eW⟩ : ∃ W, W = w.alloc (.cells abF 41) := ⟨_, rfl⟩
 have hb : Below w.heap.size w W := by rw [eW];exact (Below.refl _ _).alloc (Nat.le_refl _) _
 have hF : Blk W w.heap.size 41 abF := by rw [eW];exact Blk.new _ _ _
 obtain ⟨a0, a1⟩ : W.cell? ⟨w.heap.size, 0, none⟩ = some (S [97]) ∧ W.cell? ⟨w.heap.size, 1, none⟩ = some (S [98]) := ⟨hF.cell 0, hF.cell 1⟩
 go_enter Tryz.func210, Tryz.ntmps210
 go_upto_region 1 with fail
 rw [← eW]
 clear eW
 refine wp_region_held_drew (S := fun W => W.cell? ⟨w.heap.size, 0, none⟩ = some (S [97]) ∧ W.cell? ⟨w.heap.size, 1, none⟩ = some (S [98])) (by kernel_rfl) ⟨a0, a1⟩ (fun hHeld => ?_)
 refine wpAnyH_take (i := 0) (v := ?_) (by rfl) (by kernel_rfl) (by kernel_rfl) (by kernel_rfl) (by exact fun _ _ _ h => h) (Or.inl ⟨by rfl, ?_⟩) hHeld ?_
 rotate_left
 ·(intro w hSw;(try dsimp only at hSw);go_simp;try with_reducible rfl)
 simp only [Act.put, List.getElem_toArray, List.getElem_cons_succ, List.getElem_cons_zero, List.setIfInBounds_toArray, List.set_cons_zero, List.set_cons_succ]
 refine wpAnyH_take (i := 1) (v := ?_) (by rfl) (by kernel_rfl) (by kernel_rfl) (by kernel_rfl) (by exact fun _ _ _ h => h) (Or.inl ⟨by rfl, ?_⟩) hHeld ?_
 rotate_left
 ·(intro w hSw;(try dsimp only at hSw);go_simp;try with_reducible rfl)
 simp only [Act.put, List.getElem_toArray, List.getElem_cons_succ, List.getElem_cons_zero, List.setIfInBounds_toArray, List.set_cons_zero, List.set_cons_succ]
 refine wpAnyH_ready (rs := [2]) (by kernel_rfl) (by simp) ?_
 refine AllReadyH.cons (by rfl) (fun K hK => ?_) AllReadyH.nil
 go_simp
 refine (Token_a _).mono ?_;rintro e w2 ⟨rfl, e2⟩;subst e2
 refine hK.out _ _ ⟨a0, a1⟩ (fun hHeld => ?_)
 clear hK K
 try simp only [Act.put, List.getElem_toArray, List.getElem_cons_succ, List.getElem_cons_zero, List.setIfInBounds_toArray, List.set_cons_zero, List.set_cons_succ]
 refine wpAnyH_take (i := 3) (v := ?_) (by rfl) (by kernel_rfl) (by kernel_rfl) (by kernel_rfl) (by exact fun _ _ _ h => h) (Or.inl ⟨by rfl, ?_⟩) hHeld ?_
 rotate_left
 ·(intro w hSw;(try dsimp only at hSw);go_simp;try with_reducible rfl)
 simp only [Act.put, List.getElem_toArray, List.getElem_cons_succ, List.getElem_cons_zero, List.setIfInBounds_toArray, List.set_cons_zero, List.set_cons_succ]
 refine wpAnyH_take (i := 4) (v := ?_) (by rfl) (by kernel_rfl) (by kernel_rfl) (by kernel_rfl) (by exact fun _ _ _ h => h) (Or.inl ⟨by rfl, ?_⟩) hHeld ?_
 rotate_left
 ·(intro w hSw;(try dsimp only at hSw);go_simp;try with_reducible rfl)
 simp only [Act.put, List.getElem_toArray, List.getElem_cons_succ, List.getElem_cons_zero, List.setIfInBounds_toArray, List.set_cons_zero, List.set_cons_succ]
 refine wpAnyH_take (i := 5) (v := ?_) (by rfl) (by kernel_rfl) (by kernel_rfl) (by kernel_rfl) (by exact fun _ _ _ h => h) (Or.inl ⟨by rfl, ?_⟩) hHeld ?_
 rotate_left
 ·(intro w hSw;(try dsimp only at hSw);go_simp;try with_reducible rfl)
 simp only [Act.put, List.getElem_toArray, List.getElem_cons_succ, List.getElem_cons_zero, List.setIfInBounds_toArray, List.set_cons_zero, List.set_cons_succ]
 refine wpAnyH_take (i := 7) (v := ?_) (by rfl) (by kernel_rfl) (by kernel_rfl) (by kernel_rfl) (by exact fun _ _ _ h => h) (Or.inl ⟨by rfl, ?_⟩) hHeld ?_
 rotate_left
 ·(intro w hSw;(try dsimp only at hSw);go_simp;try with_reducible rfl)
 simp only [Act.put, List.getElem_toArray, List.getElem_cons_succ, List.getElem_cons_zero, List.setIfInBounds_toArray, List.set_cons_zero, List.set_cons_succ]
 refine wpAnyH_take (i := 8) (v := ?_) (by rfl) (by kernel_rfl) (by kernel_rfl) (by kernel_rfl) (by exact fun _ _ _ h => h) (Or.inl ⟨by rfl, ?_⟩) hHeld ?_
 rotate_left
 ·(intro w hSw;(try dsimp only at hSw);go_simp;try with_reducible rfl)
 simp only [Act.put, List.getElem_toArray, List.getElem_cons_succ, List.getElem_cons_zero, List.setIfInBounds_toArray, List.set_cons_zero, List.set_cons_succ]
 refine wpAnyH_ready (rs := [6]) (by kernel_rfl) (by simp) ?_
 refine AllReadyH.cons (by rfl) (fun K hK => ?_) AllReadyH.nil
 go_simp
 refine (hLo _).mono ?_;rintro e w3 ⟨rfl, hb3⟩;have hF3 := hF.drew.on hb3
 refine hK.out _ _ ⟨hF3.cell 0, hF3.cell 1⟩ (fun hHeld => ?_)
 clear hK K
 try simp only [Act.put, List.getElem_toArray, List.getElem_cons_succ, List.getElem_cons_zero, List.setIfInBounds_toArray, List.set_cons_zero, List.set_cons_succ]
 refine wpAnyH_take (i := 9) (v := ?_) (by rfl) (by kernel_rfl) (by kernel_rfl) (by kernel_rfl) (by exact fun _ _ _ h => h) (Or.inl ⟨by rfl, ?_⟩) hHeld ?_
 rotate_left
 ·(intro w hSw;(try dsimp only at hSw);go_simp;try with_reducible rfl)
 simp only [Act.put, List.getElem_toArray, List.getElem_cons_succ, List.getElem_cons_zero, List.setIfInBounds_toArray, List.set_cons_zero, List.set_cons_succ]
 refine wpAnyH_take (i := 10) (v := ?_) (by rfl) (by kernel_rfl) (by kernel_rfl) (by kernel_rfl) (by exact fun _ _ _ h => h) (Or.inl ⟨by rfl, ?_⟩) hHeld ?_
 rotate_left
 ·(intro w hSw;(try dsimp only at hSw);go_simp;try with_reducible rfl)
 simp only [Act.put, List.getElem_toArray, List.getElem_cons_succ, List.getElem_cons_zero, List.setIfInBounds_toArray, List.set_cons_zero, List.set_cons_succ]
 refine wpAnyH_take (i := 11) (v := ?_) (by rfl) (by kernel_rfl) (by kernel_rfl) (by kernel_rfl) (by exact fun _ _ _ h => h) (Or.inl ⟨by rfl, ?_⟩) hHeld ?_
 rotate_left
 ·(intro w hSw;(try dsimp only at hSw);go_simp;try with_reducible rfl)
 simp only [Act.put, List.getElem_toArray, List.getElem_cons_succ, List.getElem_cons_zero, List.setIfInBounds_toArray, List.set_cons_zero, List.set_cons_succ]
 refine wpAnyH_take (i := 12) (v := ?_) (by rfl) (by kernel_rfl) (by kernel_rfl) (by kernel_rfl) (by exact fun _ _ _ h => h) (Or.inl ⟨by rfl, ?_⟩) hHeld ?_
 rotate_left
 ·(intro w hSw;(try dsimp only at hSw);go_simp;try with_reducible rfl)
 simp only [Act.put, List.getElem_toArray, List.getElem_cons_succ, List.getElem_cons_zero, List.setIfInBounds_toArray, List.set_cons_zero, List.set_cons_succ]
 refine wpAnyH_take (i := 13) (v := ?_) (by rfl) (by kernel_rfl) (by kernel_rfl) (by kernel_rfl) (by exact fun _ _ _ h => h) (Or.inl ⟨by rfl, ?_⟩) hHeld ?_
 rotate_left
 ·(intro w hSw;(try dsimp only at hSw);go_simp;try with_reducible rfl)
 simp only [Act.put, List.getElem_toArray, List.getElem_cons_succ, List.getElem_cons_zero, List.setIfInBounds_toArray, List.set_cons_zero, List.set_cons_succ]
 refine wpAnyH_ready (rs := [14]) (by kernel_rfl) (by simp) ?_
 refine AllReadyH.cons (by rfl) (fun K hK => ?_) AllReadyH.nil
 go_simp
 refine (Value_b _).mono ?_;rintro e w4 ⟨rfl, hb4⟩;have hb34 := hb3.trans (hb4.mono hb3.size);have hF4 := hF3.on hb4
 refine hK.out _ _ ⟨hF4.cell 0, hF4.cell 1⟩ (fun hHeld => ?_)
 clear hK K
 try simp only [Act.put, List.getElem_toArray, List.getElem_cons_succ, List.getElem_cons_zero, List.setIfInBounds_toArray, List.set_cons_zero, List.set_cons_succ]
 refine wpAnyH_take (i := 15) (v := ?_) (by rfl) (by kernel_rfl) (by kernel_rfl) (by kernel_rfl) (by exact fun _ _ _ h => h) (Or.inl ⟨by rfl, ?_⟩) hHeld ?_
 rotate_left
 ·(intro w hSw;(try dsimp only at hSw);go_simp;try with_reducible rfl)
 simp only [Act.put, List.getElem_toArray, List.getElem_cons_succ, List.getElem_cons_zero, List.setIfInBounds_toArray, List.set_cons_zero, List.set_cons_succ]
 refine wpAnyH_take (i := 16) (v := ?_) (by rfl) (by kernel_rfl) (by kernel_rfl) (by kernel_rfl) (by exact fun _ _ _ h => h) (Or.inl ⟨by rfl, ?_⟩) hHeld ?_
 rotate_left
 ·(intro w hSw;(try dsimp only at hSw);go_simp;try with_reducible rfl)
 simp only [Act.put, List.getElem_toArray, List.getElem_cons_succ, List.getElem_cons_zero, List.setIfInBounds_toArray, List.set_cons_zero, List.set_cons_succ]
 refine wpAnyH_take (i := 17) (v := ?_) (by rfl) (by kernel_rfl) (by kernel_rfl) (by kernel_rfl) (by exact fun _ _ _ h => h) (Or.inl ⟨by rfl, ?_⟩) hHeld ?_
 rotate_left
 ·(intro w hSw;(try dsimp only at hSw);go_simp;try with_reducible rfl)
 simp only [Act.put, List.getElem_toArray, List.getElem_cons_succ, List.getElem_cons_zero, List.setIfInBounds_toArray, List.set_cons_zero, List.set_cons_succ]
 refine wpAnyH_take (i := 18) (v := ?_) (by rfl) (by kernel_rfl) (by kernel_rfl) (by kernel_rfl) (by exact fun _ _ _ h => h) (Or.inl ⟨by rfl, ?_⟩) hHeld ?_
 rotate_left
 ·(intro w hSw;(try dsimp only at hSw);go_simp;try with_reducible rfl)
 simp only [Act.put, List.getElem_toArray, List.getElem_cons_succ, List.getElem_cons_zero, List.setIfInBounds_toArray, List.set_cons_zero, List.set_cons_succ]
 refine wpAnyH_ready (rs := [19]) (by kernel_rfl) (by simp) ?_
 refine AllReadyH.cons (by rfl) (fun K hK => ?_) AllReadyH.nil
 go_simp
 refine (OfConn_a _).mono ?_;rintro e w5 ⟨rfl, e5⟩;subst e5
 refine hK.out _ _ ⟨hF4.cell 0, hF4.cell 1⟩ (fun hHeld => ?_)
 clear hK K
 try simp only [Act.put, List.getElem_toArray, List.getElem_cons_succ, List.getElem_cons_zero, List.setIfInBounds_toArray, List.set_cons_zero, List.set_cons_succ]
 refine wpAnyH_take (i := 20) (v := ?_) (by rfl) (by kernel_rfl) (by kernel_rfl) (by kernel_rfl) (by exact fun _ _ _ h => h) (Or.inl ⟨by rfl, ?_⟩) hHeld ?_
 rotate_left
 ·(intro w hSw;(try dsimp only at hSw);go_simp;try with_reducible rfl)
 simp only [Act.put, List.getElem_toArray, List.getElem_cons_succ, List.getElem_cons_zero, List.setIfInBounds_toArray, List.set_cons_zero, List.set_cons_succ]
 refine wpAnyH_take (i := 21) (v := ?_) (by rfl) (by kernel_rfl) (by kernel_rfl) (by kernel_rfl) (by exact fun _ _ _ h => h) (Or.inl ⟨by rfl, ?_⟩) hHeld ?_
 rotate_left
 ·(intro w hSw;(try dsimp only at hSw);go_simp;try with_reducible rfl)
 simp only [Act.put, List.getElem_toArray, List.getElem_cons_succ, List.getElem_cons_zero, List.setIfInBounds_toArray, List.set_cons_zero, List.set_cons_succ]
 refine wpAnyH_take (i := 22) (v := ?_) (by rfl) (by kernel_rfl) (by kernel_rfl) (by kernel_rfl) (by exact fun _ _ _ h => h) (Or.inl ⟨by rfl, ?_⟩) hHeld ?_
 rotate_left
 ·(intro w hSw;(try dsimp only at hSw);go_simp;try with_reducible rfl)
 simp only [Act.put, List.getElem_toArray, List.getElem_cons_succ, List.getElem_cons_zero, List.setIfInBounds_toArray, List.set_cons_zero, List.set_cons_succ]
 refine wpAnyH_take (i := 23) (v := ?_) (by rfl) (by kernel_rfl) (by kernel_rfl) (by kernel_rfl) (by exact fun _ _ _ h => h) (Or.inl ⟨by rfl, ?_⟩) hHeld ?_
 rotate_left
 ·(intro w hSw;(try dsimp only at hSw);go_simp;try with_reducible rfl)
 simp only [Act.put, List.getElem_toArray, List.getElem_cons_succ, List.getElem_cons_zero, List.setIfInBounds_toArray, List.set_cons_zero, List.set_cons_succ]
 refine wpAnyH_take (i := 24) (v := ?_) (by rfl) (by kernel_rfl) (by kernel_rfl) (by kernel_rfl) (by exact fun _ _ _ h => h) (Or.inl ⟨by rfl, ?_⟩) hHeld ?_
 rotate_left
 ·(intro w hSw;(try dsimp only at hSw);go_simp;try with_reducible rfl)
 simp only [Act.put, List.getElem_toArray, List.getElem_cons_succ, List.getElem_cons_zero, List.setIfInBounds_toArray, List.set_cons_zero, List.set_cons_succ]
 refine wpAnyH_take (i := 25) (v := ?_) (by rfl) (by kernel_rfl) (by kernel_rfl) (by kernel_rfl) (by exact fun _ _ _ h => h) (Or.inl ⟨by rfl, ?_⟩) hHeld ?_
 rotate_left
 ·(intro w hSw;(try dsimp only at hSw);go_simp;try with_reducible rfl)
 simp only [Act.put, List.getElem_toArray, List.getElem_cons_succ, List.getElem_cons_zero, List.setIfInBounds_toArray, List.set_cons_zero, List.set_cons_succ]
 refine wpAnyH_take (i := 26) (v := ?_) (by rfl) (by kernel_rfl) (by kernel_rfl) (by kernel_rfl) (by exact fun _ _ _ h => h) (Or.inl ⟨by rfl, ?_⟩) hHeld ?_
 rotate_left
 ·(intro w hSw;(try dsimp only at hSw);go_simp;try with_reducible rfl)
 simp only [Act.put, List.getElem_toArray, List.getElem_cons_succ, List.getElem_cons_zero, List.setIfInBounds_toArray, List.set_cons_zero, List.set_cons_succ]
 refine wpAnyH_take (i := 27) (v := undef) (by rfl) (by kernel_rfl) (by kernel_rfl) (by kernel_rfl) (by exact fun _ _ _ h => h) (Or.inr ⟨by rfl, rfl⟩) hHeld ?_
 simp only [Act.put, List.getElem_toArray, List.getElem_cons_succ, List.getElem_cons_zero, List.setIfInBounds_toArray, List.set_cons_zero, List.set_cons_succ]
 refine wpAnyH_take (i := 28) (v := undef) (by rfl) (by kernel_rfl) (by kernel_rfl) (by kernel_rfl) (by exact fun _ _ _ h => h) (Or.inr ⟨by rfl, rfl⟩) hHeld ?_
 simp only [Act.put, List.getElem_toArray, List.getElem_cons_succ, List.getElem_cons_zero, List.setIfInBounds_toArray, List.set_cons_zero, List.set_cons_succ]
 refine wpAnyH_take (i := 29) (v := undef) (by rfl) (by kernel_rfl) (by kernel_rfl) (by kernel_rfl) (by exact fun _ _ _ h => h) (Or.inr ⟨by rfl, rfl⟩) hHeld ?_
 simp only [Act.put, List.getElem_toArray, List.getElem_cons_succ, List.getElem_cons_zero, List.setIfInBounds_toArray, List.set_cons_zero, List.set_cons_succ]
 refine wpAnyH_take (i := 30) (v := ?_) (by rfl) (by kernel_rfl) (by kernel_rfl) (by kernel_rfl) (by exact fun _ _ _ h => h) (Or.inl ⟨by rfl, ?_⟩) hHeld ?_
 rotate_left
 ·(intro w hSw;(try dsimp only at hSw);go_simp;try with_reducible rfl)
 simp only [Act.put, List.getElem_toArray, List.getElem_cons_succ, List.getElem_cons_zero, List.setIfInBounds_toArray, List.set_cons_zero, List.set_cons_succ]
 refine wpAnyH_take (i := 31) (v := ?_) (by rfl) (by kernel_rfl) (by kernel_rfl) (by kernel_rfl) (by exact fun _ _ _ h => h) (Or.inl ⟨by rfl, ?_⟩) hHeld ?_
 rotate_left
 ·(intro w hSw;(try dsimp only at hSw);go_simp;try with_reducible rfl)
 simp only [Act.put, List.getElem_toArray, List.getElem_cons_succ, List.getElem_cons_zero, List.setIfInBounds_toArray, List.set_cons_zero, List.set_cons_succ]
 refine wpAnyH_take (i := 32) (v := ?_) (by rfl) (by kernel_rfl) (by kernel_rfl) (by kernel_rfl) (by exact fun _ _ _ h => h) (Or.inl ⟨by rfl, ?_⟩) hHeld ?_
 rotate_left
 ·(intro w hSw;(try dsimp only at hSw);go_simp;try with_reducible rfl)
 simp only [Act.put, List.getElem_toArray, List.getElem_cons_succ, List.getElem_cons_zero, List.setIfInBounds_toArray, List.set_cons_zero, List.set_cons_succ]
 try simp only [Act.put, List.getElem_toArray, List.getElem_cons_succ, List.getElem_cons_zero, List.setIfInBounds_toArray, List.set_cons_zero, List.set_cons_succ]
 refine wpAnyH_done (by kernel_rfl) ?_ _
 go_wp2
 go_ret
 exact ⟨rfl, hb.drew.trans (hb34.mono hb.size)⟩
set_option maxRecDepth 100000 in
set_option maxHeartbeats 4000000 in
/-- a plain field is kept -/
theorem Ask_ab {b7 b8 b9 : Nat} {t8 : TypeId} (w : World) (h8 : Blk w b8 t8 #[.slice none 0 0]) :
  Calls Tryz.prog 208 #[.agg abF, Ptr b8, Ptr b9, Ptr b7] w fun e w' => e = .returned (.int .i64 0) ∧ (∃ a c, Blk w' b8 t8 #[.slice a 1 c] ∧ w'.ownsRow w.heap.size 41 3 (.slice a 1 c) 1 abF.toList) ∧ But (fun k => k = b8) w w' := by
 obtain ⟨W, eW⟩ : ∃ W, W = w.alloc (.cells abF 41) := ⟨_, rfl⟩
 have hb : Below w.heap.size w W := by rw [eW];exact (Below.refl _ _).alloc (Nat.le_refl _) _
 have hF : Blk W w.heap.size 41 abF := by rw [eW];exact Blk.new _ _ _
 have a0 : W.cell? ⟨w.heap.size, 0, none⟩ = some (S [97]) := hF.cell 0
 have a1 : W.cell? ⟨w.heap.size, 1, none⟩ = some (S [98]) := hF.cell 1
 have a2 : W.cell? ⟨w.heap.size, 2, none⟩ = some (.bool false) := hF.cell 2
 have hl8 := h8.lt
 go_enter Tryz.func208, Tryz.ntmps208
 go_upto_region 1 with fail
 rw [← eW]
 clear eW
 go_upto_region 8 with first
  | (go_at_call 209;go_must ((with_reducible refine (Pseudo_ab _).mono ?_);rintro e w2 ⟨rfl, hb2⟩;have hb02 := hb.trans (hb2.mono hb.size);have hF2 := hF.on hb2;have k0 : w2.cell? ⟨w.heap.size, 0, none⟩ = some (S [97]) := hF2.cell 0;have k1 : w2.cell? ⟨w.heap.size, 1, none⟩ = some (S [98]) := hF2.cell 1;have k2 : w2.cell? ⟨w.heap.size, 2, none⟩ = some (.bool false) := hF2.cell 2))
  | (go_at_call 210;go_must ((with_reducible refine (Plain_ab _).mono ?_);rintro e w3 ⟨rfl, hb3⟩;have hb03 := hb02.trans (hb3.mono hb02.size);have hF3 := hF2.on hb3;have x8 : w3.cell? ⟨b8, 0, none⟩ = some (.slice none 0 0) := (h8.on hb03).cell 0;have q0 : w3.cell? ⟨w.heap.size, 0, none⟩ = some (S [97]) := hF3.cell 0;have q1 : w3.cell? ⟨w.heap.size, 1, none⟩ = some (S [98]) := hF3.cell 1;have q2 : w3.cell? ⟨w.heap.size, 2, none⟩ = some (.bool false) := hF3.cell 2))
 have hz3 := hb03.size
 go_wp2_with (at_builtin;go_must (refine wpList_appRd rfl _ _ 42 rfl w.heap.size 41 (.agg #[.string ByteArray.empty, .string ByteArray.empty, .bool false]) 3 40 Tryz.underlying42 (by kernel_rfl) rfl (by decide) _ _ _ rfl (World.ownsRow_nil _ _ _ _) _ _ _ abF.toList rfl (Rd.lit w3 41 abF 3 1 rfl (by decide)) (by intro u hu;simp at hu;rcases hu with rfl | rfl | rfl <;> rfl) (by decide) (by decide) (by simp;omega) ?_);intro a5 c5 w5 hown5 hb5;have h85 := ((h8.on hb03).alloc (.cells abF 41)).below hb5 hl8;have z8 : w5.cell? ⟨b8, 0, none⟩ = some (.slice none 0 0) := h85.cell 0;have f8 := h85.free 0)
 go_ret
 exact ⟨rfl, ⟨a5, c5, h85.set 0 _, ownsRow_setCell_below hown5 hl8 _⟩, (But.of_below (S := fun k => k = b8) ((hb03.alloc hz3 _).trans hb5)).setCell (p := ⟨b8, 0, none⟩) (.inl rfl) _⟩
set_option maxRecDepth 100000 in
set_option maxHeartbeats 4000000 in
theorem Gather_ab {B nb c : Nat} {a : Option Addr} {tn : TypeId} (w : World) (h : w.ownsRow B 41 3 (.slice a 2 c) 2 (fcells [fStat, fAb])) (hn : Blk w nb tn #[S statB]) :
  Calls Tryz.prog 172 #[.slice a 2 c, .slice (some ⟨nb, 0, none⟩) 1 1] w fun e w' => ∃ mb a' c', e = .returned (.tuple #[.map (some mb), .slice a' 1 c', .int .i64 0]) ∧ SM w' mb [50, 48, 48] ∧ w'.ownsRow w.heap.size 41 3 (.slice a' 1 c') 1 abF.toList ∧ Below w.heap.size w w' := by
 obtain ⟨g, rfl, hc⟩ := own_cell h (by decide)
 have hgl := (own_lt h (g := g) rfl).2
 have c0 : w.cell? ⟨g, 0, none⟩ = some (S statB) := hc 0 _ rfl
 have c1 : w.cell? ⟨g, 1, none⟩ = some (S [50, 48, 48]) := hc 1 _ rfl
 have c2 : w.cell? ⟨g, 2, none⟩ = some (.bool false) := hc 2 _ rfl
 have c3 : w.cell? ⟨g, 3, none⟩ = some (S [97]) := hc 3 _ rfl
 have c4 : w.cell? ⟨g, 4, none⟩ = some (S [98]) := hc 4 _ rfl
 have c5 : w.cell? ⟨g, 5, none⟩ = some (.bool false) := hc 5 _ rfl
 have hmm := @run_makeMap Tryz.prog
 have hmf : ∀ (fn : Fn) (first cap : Array Value) (w : World), (Instr.makeFunc fn first cap).run Tryz.prog w = .ok (.func fn first cap) w := fun _ _ _ _ => rfl
 obtain ⟨hA, hM, hB, hC, hD, hb, hz⟩ := gather_made w nb w.heap.size rfl
 obtain ⟨W, eW⟩ : ∃ W, W = (((((w.alloc (.cells #[.slice (some ⟨nb, 0, none⟩) 1 1] 95)).alloc (.map #[] 0)).alloc (.cells #[.map (some (w.heap.size + 1))] 252)).alloc (.cells #[.slice none 0 0] 42)).alloc (.cells #[Value.func (.func 207) #[] #[Ptr w.heap.size, Ptr (w.heap.size + 1 + 1)]] 293)) := ⟨_, rfl⟩
 rw [← eW] at hA hM hB hC hD hb hz
 obtain ⟨W1, eW1⟩ : ∃ W1, W1 = W.alloc (.cells stat8 41) := ⟨_, rfl⟩
 have hb1 : Below W.heap.size W W1 := by rw [eW1];exact (Below.refl _ _).alloc (Nat.le_refl _) _
 have hw1 : Below w.heap.size w W1 := hb.trans (hb1.mono hb.size)
 have hn1 : Blk W1 nb tn #[S statB] := hn.on hw1
 have hF1 : Blk W1 W.heap.size 41 stat8 := by rw [eW1];exact Blk.new _ _ _
 have hM1 := obj_below hM hb1 (lt_of_block hM)
 have hAsk := Ask_stat W1 (hA.on hb1) hn1 (hB.on hb1) hM1 (hC.on hb1) (hD.on hb1)
 have cg : ∀ {w' : World} {j : Nat} {u : Value}, But (fun k => w.heap.size ≤ k) w w' → w.cell? ⟨g, j, none⟩ = some u → w'.cell? ⟨g, j, none⟩ = some u := fun {w' j u} hu hc => by
  simp only [World.cell?, hu.block g hgl (by omega)] at hc ⊢
  exact hc
 have hu0 : But (fun k => w.heap.size ≤ k) w W := But.of_below hb
 have d0 := cg hu0 c0
 have d1 := cg hu0 c1
 have d2 := cg hu0 c2
 have k0 : W1.cell? ⟨W.heap.size, 0, none⟩ = some (S statB) := hF1.cell 0
 have k1 : W1.cell? ⟨W.heap.size, 1, none⟩ = some (S [50, 48, 48]) := hF1.cell 1
 have k2 : W1.cell? ⟨W.heap.size, 2, none⟩ = some (.bool false) := hF1.cell 2
 have HZ := Lib.hid hz
 have hz1 : w.heap.size + 5 ≤ W1.heap.size := by have := hb1.size;omega
 clear hz h hc
 go_enter Tryz.func172, Tryz.ntmps172
 go_upto_region 5 with fail
 rw [← eW]
 clear eW
 go_wp2
 refine wp_loop_rounds 3 ?_
 rw [rounds_succ]
 go_upto_region 8 with fail
 rw [← eW1]
 clear eW1
 go_upto_region 9 with (go_at_call 208;go_must ((with_reducible refine hAsk.mono ?_);rintro e w2 ⟨rfl, hS2, hb2⟩))
 have hB2 : Blk w2 _ _ _ := (hb2.block _ (hB.on hb1).lt (by show ¬ _ = _;omega)).trans (hB.on hb1)
 have hC2 : Blk w2 _ _ _ := (hb2.block _ (hC.on hb1).lt (by show ¬ _ = _;omega)).trans (hC.on hb1)
 have hu2 : But (fun k => w.heap.size ≤ k) w w2 := (But.of_below hw1).trans (hb2.more fun k hk => by omega)
 have hz2 : w.heap.size + 5 ≤ w2.heap.size := Nat.le_trans hz1 hb2.size
 have d3 := cg hu2 c3
 have d4 := cg hu2 c4
 have d5 := cg hu2 c5
 clear k0 k1 k2 d0 d1 d2 hAsk
 go_upto_region 11 with fail
 go_wp2
 rw [rounds_succ]
 obtain ⟨W3, eW3⟩ : ∃ W3, W3 = w2.alloc (.cells abF 41) := ⟨_, rfl⟩
 have hb3 : Below w2.heap.size w2 W3 := by rw [eW3];exact (Below.refl _ _).alloc (Nat.le_refl _) _
 have hF3 : Blk W3 w2.heap.size 41 abF := by rw [eW3];exact Blk.new _ _ _
 have hAsk := Ask_ab (b7 := w.heap.size + 1 + 1) (b9 := w.heap.size + 1 + 1 + 1 + 1) W3 (hC2.on hb3)
 have k0 : W3.cell? ⟨w2.heap.size, 0, none⟩ = some (S [97]) := hF3.cell 0
 have k1 : W3.cell? ⟨w2.heap.size, 1, none⟩ = some (S [98]) := hF3.cell 1
 have k2 : W3.cell? ⟨w2.heap.size, 2, none⟩ = some (.bool false) := hF3.cell 2
 go_upto_region 8 with fail
 rw [← eW3]
 clear eW3
 go_upto_region 9 with (go_at_call 208;go_must ((with_reducible refine hAsk.mono ?_);rintro e w4 ⟨rfl, ⟨a', c', hC4, hr4⟩, hb4⟩))
 have hB4 : Blk w4 _ _ _ := (hB2.on hb3).but hb4 (by show ¬ _ = _;omega)
 have hS4 : SM w4 (w.heap.size + 1) [50, 48, 48] := (hS2.block (hb3.block _ (by omega))).block (hb4.block _ (by have := hb3.size;omega) (by show ¬ _ = _;omega))
 have e7 : w4.cell? ⟨w.heap.size + 1 + 1, 0, none⟩ = some (.map (some (w.heap.size + 1))) := hB4.cell 0
 have e8 : w4.cell? ⟨w.heap.size + 1 + 1 + 1, 0, none⟩ = some (.slice a' 1 c') := hC4.cell 0
 have hu4 : But (fun k => w.heap.size ≤ k) w w4 := (hu2.trans (But.of_below hb3)).trans (hb4.more fun k hk => by omega)
 have hz4 := hb3.size
 clear k0 k1 k2 d3 d4 d5 hAsk
 go_wp2
 rw [rounds_succ]
 go_wp2
 go_region
 go_wp2
 go_ret3
 exact ⟨w.heap.size + 1, a', c', rfl, hS4.block rfl, own_dr (own_base hr4 (by omega)), (hu4.below (fun k hk => hk) (Nat.le_refl _)).drew⟩
set_option maxRecDepth 100000 in
set_option maxHeartbeats 4000000 in
theorem Length_ab {B c : Nat} {a : Option Addr} (w : World) (h : w.ownsRow B 41 3 (.slice a 1 c) 1 abF.toList) : Calls Tryz.prog 122 #[.slice a 1 c] w fun e w' => e = .returned (.tuple #[.int .i64 0, .bool false, .int .i64 0]) ∧ Below w.heap.size w w' := by
 obtain ⟨g, rfl, hc⟩ := own_cell h (by decide)
 have c0 : w.cell? ⟨g, 0, none⟩ = some (S [97]) := hc 0 _ rfl
 have c1 : w.cell? ⟨g, 1, none⟩ = some (S [98]) := hc 1 _ rfl
 have c2 : w.cell? ⟨g, 2, none⟩ = some (.bool false) := hc 2 _ rfl
 clear hc
 go_enter Tryz.func122, Tryz.ntmps122
 go_wp2
 refine wp_loop_rounds 2 ?_
 rw [rounds_succ]
 go_wp2
 rw [rounds_succ]
 go_wp2
 go_ret3
 exact ⟨rfl, (Below.refl _ _).alloc (Nat.le_refl _) _⟩
set_option maxRecDepth 100000 in
set_option maxHeartbeats 4000000 in
/-- an answer's head of two fields: 200, 'a: b' -/
theorem ReadAnswer_ab {B c : Nat} {a : Option Addr} (w : World) (h : w.ownsRow B 41 3 (.slice a 2 c) 2 (fcells [fStat, fAb])) :
  Calls Tryz.prog 121 #[.slice a 2 c] w fun e w' => (∃ a' c', e = .returned (.tuple #[.int .i64 200, .slice a' 1 c', .int .i64 0]) ∧ w'.ownsRow w.heap.size 41 3 (.slice a' 1 c') 1 abF.toList) ∧ Below w.heap.size w w' := by
 obtain ⟨W, eW⟩ : ∃ W, W = w.alloc (.cells #[.string ⟨#[58, 115, 116, 97, 116, 117, 115]⟩] 9) := ⟨_, rfl⟩
 have hb : Below w.heap.size w W := by rw [eW];exact (Below.refl _ _).alloc (Nat.le_refl _) _
 have hn : Blk W w.heap.size 9 #[S statB] := by rw [eW];exact Blk.new _ _ _
 have hG := Gather_ab W (own_below h hb) hn
 have hfd : ∀ w' : World, (Instr.field 256 (.agg #[S [50, 48, 48]]) 0).run Tryz.prog w' = .ok (S [50, 48, 48]) w' := fun w' => by kernel_rfl
 go_enter Tryz.func121, Tryz.ntmps121
 go_wp2_with first
  | (go_at_call 172;rw [← eW];(with_reducible refine hG.mono ?_);rintro e w2 ⟨mb, a', c', rfl, hS2, hr2, hb2⟩;have hl : (Instr.lookup 252 (.map (some mb)) (.string ⟨#[58, 115, 116, 97, 116, 117, 115]⟩) false).run Tryz.prog w2 = .ok (.agg #[S [50, 48, 48]]) w2 := hS2.get;have hb02 := hb.trans (hb2.mono hb.size))
  | (go_at_call 173;(with_reducible refine (Decimal_200 _).mono ?_);rintro e w3 ⟨rfl, rfl⟩)
  | (go_at_call 122;go_must ((with_reducible refine (Length_ab _ hr2).mono ?_);rintro e w4 ⟨rfl, hb4⟩))
 go_ret3
 exact ⟨⟨a', c', rfl, own_base (own_below hr2 hb4) hb.size⟩, hb02.trans (hb4.mono hb02.size)⟩
end Go.Proofs.YtkeeofhjdffhbaaGreatDoor
