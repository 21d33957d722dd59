/- Parts of the proof of pt_root: the texts PtG. -/
import Derived.Test.YtkeeofhjdffhbaaGreatDoorT40
set_option linter.unusedSimpArgs false
set_option linter.unusedVariables false
set_option linter.unnecessarySimpa false
namespace Go.Proofs.YtkeeofhjdffhbaaGreatDoor
open Go Go.RowKit Go.Dr
set_option maxRecDepth 100000 in
set_option maxHeartbeats 4000000 in
theorem after_over {vout vin voff vdec vpings vbegan vorder vblock : Value} {all beg frames tab sts last of away bad : Int} {first ends closed : Bool} {p : Nat} {ty fl st pad code la inc dep wt xc xs : Int} {sole xi : Bool} {da : Bytes} {sa : Option Addr} {sn sc : Nat} (w : World) (h : Blk w p 97 #[vout, vin, .int .i64 all, .int .i64 beg, voff, vdec, .int .i64 frames, .int .i64 tab, .int .i64 sts, vpings, .int .i64 last, vbegan, vorder, .bool first, .int .i64 of, .bool ends, vblock, .int .i64 away, .bool true, .int .i64 bad]) :
  Calls Tryz.prog 47 #[Ptr p, .agg #[.int .i64 ty, .int .i64 fl, .int .i64 st, S da, .int .i64 pad, .slice sa sn sc, .int .i64 code, .int .i64 la, .int .i64 inc, .int .i64 dep, .int .i64 wt, .bool sole, .bool xi, .int .i64 xc, .int .i64 xs]] w fun e w' => e = .returned (.int .i64 244) ∧ Below w.heap.size w w' := by
 have y0 : w.cell? ⟨p, 0, none⟩ = some (vout) := h.cell 0
 have y1 : w.cell? ⟨p, 1, none⟩ = some (vin) := h.cell 1
 have y2 : w.cell? ⟨p, 2, none⟩ = some (.int .i64 all) := h.cell 2
 have y3 : w.cell? ⟨p, 3, none⟩ = some (.int .i64 beg) := h.cell 3
 have y4 : w.cell? ⟨p, 4, none⟩ = some (voff) := h.cell 4
 have y5 : w.cell? ⟨p, 5, none⟩ = some (vdec) := h.cell 5
 have y6 : w.cell? ⟨p, 6, none⟩ = some (.int .i64 frames) := h.cell 6
 have y7 : w.cell? ⟨p, 7, none⟩ = some (.int .i64 tab) := h.cell 7
 have y8 : w.cell? ⟨p, 8, none⟩ = some (.int .i64 sts) := h.cell 8
 have y9 : w.cell? ⟨p, 9, none⟩ = some (vpings) := h.cell 9
 have y10 : w.cell? ⟨p, 10, none⟩ = some (.int .i64 last) := h.cell 10
 have y11 : w.cell? ⟨p, 11, none⟩ = some (vbegan) := h.cell 11
 have y12 : w.cell? ⟨p, 12, none⟩ = some (vorder) := h.cell 12
 have y13 : w.cell? ⟨p, 13, none⟩ = some (.bool first) := h.cell 13
 have y14 : w.cell? ⟨p, 14, none⟩ = some (.int .i64 of) := h.cell 14
 have y15 : w.cell? ⟨p, 15, none⟩ = some (.bool ends) := h.cell 15
 have y16 : w.cell? ⟨p, 16, none⟩ = some (vblock) := h.cell 16
 have y17 : w.cell? ⟨p, 17, none⟩ = some (.int .i64 away) := h.cell 17
 have y18 : w.cell? ⟨p, 18, none⟩ = some (.bool true) := h.cell 18
 have y19 : w.cell? ⟨p, 19, none⟩ = some (.int .i64 bad) := h.cell 19
 have hlt := h.lt
 go_enter Tryz.func47, Tryz.ntmps47
 go_wp2
 all_goals go_ret
 all_goals exact ⟨rfl, by repeat (first | (with_reducible exact Below.refl _ _) | (with_reducible refine Below.drew ?_) | ((with_reducible refine Below.alloc ?_ ?_ _);rotate_left;(first | omega | exact (by simp <;> omega))))⟩
set_option maxRecDepth 100000 in
set_option maxHeartbeats 4000000 in
theorem pieces_R {vout vin voff vdec vpings vbegan vorder vblock : Value} {all beg frames tab sts last of away bad : Int} {first ends closed : Bool} {p : Nat} {ty fl st pad code la inc dep wt xc xs : Int} {sole xi : Bool} {da : Bytes} {sa : Option Addr} {sn sc : Nat} (w : World) (h : Blk w p 97 #[vout, vin, .int .i64 all, .int .i64 beg, voff, vdec, .int .i64 frames, .int .i64 tab, .int .i64 sts, vpings, .int .i64 last, vbegan, vorder, .bool false, .int .i64 0, .bool ends, vblock, .int .i64 away, .bool closed, .int .i64 bad]) :
  Calls Tryz.prog 49 #[Ptr p, .agg #[.int .i64 3, .int .i64 fl, .int .i64 st, S da, .int .i64 pad, .slice sa sn sc, .int .i64 code, .int .i64 la, .int .i64 inc, .int .i64 dep, .int .i64 wt, .bool sole, .bool xi, .int .i64 xc, .int .i64 xs]] w fun e w' => e = .returned (.int .i64 0) ∧ Blk w' p 97 #[vout, vin, .int .i64 all, .int .i64 beg, voff, vdec, .int .i64 frames, .int .i64 tab, .int .i64 sts, vpings, .int .i64 last, vbegan, vorder, .bool false, .int .i64 0, .bool ends, vblock, .int .i64 away, .bool closed, .int .i64 bad] ∧ But (fun k => k = p) w w' := by
 have y0 : w.cell? ⟨p, 0, none⟩ = some (vout) := h.cell 0
 have y1 : w.cell? ⟨p, 1, none⟩ = some (vin) := h.cell 1
 have y2 : w.cell? ⟨p, 2, none⟩ = some (.int .i64 all) := h.cell 2
 have y3 : w.cell? ⟨p, 3, none⟩ = some (.int .i64 beg) := h.cell 3
 have y4 : w.cell? ⟨p, 4, none⟩ = some (voff) := h.cell 4
 have y5 : w.cell? ⟨p, 5, none⟩ = some (vdec) := h.cell 5
 have y6 : w.cell? ⟨p, 6, none⟩ = some (.int .i64 frames) := h.cell 6
 have y7 : w.cell? ⟨p, 7, none⟩ = some (.int .i64 tab) := h.cell 7
 have y8 : w.cell? ⟨p, 8, none⟩ = some (.int .i64 sts) := h.cell 8
 have y9 : w.cell? ⟨p, 9, none⟩ = some (vpings) := h.cell 9
 have y10 : w.cell? ⟨p, 10, none⟩ = some (.int .i64 last) := h.cell 10
 have y11 : w.cell? ⟨p, 11, none⟩ = some (vbegan) := h.cell 11
 have y12 : w.cell? ⟨p, 12, none⟩ = some (vorder) := h.cell 12
 have y13 : w.cell? ⟨p, 13, none⟩ = some (.bool false) := h.cell 13
 have y14 : w.cell? ⟨p, 14, none⟩ = some (.int .i64 0) := h.cell 14
 have y15 : w.cell? ⟨p, 15, none⟩ = some (.bool ends) := h.cell 15
 have y16 : w.cell? ⟨p, 16, none⟩ = some (vblock) := h.cell 16
 have y17 : w.cell? ⟨p, 17, none⟩ = some (.int .i64 away) := h.cell 17
 have y18 : w.cell? ⟨p, 18, none⟩ = some (.bool closed) := h.cell 18
 have y19 : w.cell? ⟨p, 19, none⟩ = some (.int .i64 bad) := h.cell 19
 have hlt := h.lt
 have f13 := h.free 13
 go_enter Tryz.func49, Tryz.ntmps49
 go_upto_region 4 with fail
 refine wp_region_held_drew (S := (fun wx => wx.cell? ⟨p, 14, none⟩ = some (.int .i64 0))) (by kernel_rfl) (((h.alloc _).alloc _).drew.cell 14) (fun hHeld => ?_)
 refine wpAnyH_take (i := 0) (v := ?_) (by rfl) (by kernel_rfl) (by kernel_rfl) (by kernel_rfl) (by exact fun _ _ _ h => h) (Or.inl ⟨by rfl, ?_⟩) hHeld ?_
 rotate_left
 ·(intro w hSw;(try dsimp only at hSw);go_simp;try with_reducible rfl)
 simp only [Act.put, List.getElem_toArray, List.getElem_cons_succ, List.getElem_cons_zero, List.setIfInBounds_toArray, List.set_cons_zero, List.set_cons_succ]
 refine wpAnyH_take (i := 1) (v := ?_) (by rfl) (by kernel_rfl) (by kernel_rfl) (by kernel_rfl) (by exact fun _ _ _ h => h) (Or.inl ⟨by rfl, ?_⟩) hHeld ?_
 rotate_left
 ·(intro w hSw;(try dsimp only at hSw);go_simp;try with_reducible rfl)
 simp only [Act.put, List.getElem_toArray, List.getElem_cons_succ, List.getElem_cons_zero, List.setIfInBounds_toArray, List.set_cons_zero, List.set_cons_succ]
 refine wpAnyH_take (i := 2) (v := ?_) (by rfl) (by kernel_rfl) (by kernel_rfl) (by kernel_rfl) (by exact fun _ _ _ h => h) (Or.inl ⟨by rfl, ?_⟩) hHeld ?_
 rotate_left
 ·(intro w hSw;(try dsimp only at hSw);go_simp;try with_reducible rfl)
 simp only [Act.put, List.getElem_toArray, List.getElem_cons_succ, List.getElem_cons_zero, List.setIfInBounds_toArray, List.set_cons_zero, List.set_cons_succ]
 refine wpAnyH_take (i := 3) (v := ?_) (by rfl) (by kernel_rfl) (by kernel_rfl) (by kernel_rfl) (by exact fun _ _ _ h => h) (Or.inl ⟨by rfl, ?_⟩) hHeld ?_
 rotate_left
 ·(intro w hSw;(try dsimp only at hSw);go_simp;try with_reducible rfl)
 simp only [Act.put, List.getElem_toArray, List.getElem_cons_succ, List.getElem_cons_zero, List.setIfInBounds_toArray, List.set_cons_zero, List.set_cons_succ]
 refine wpAnyH_take (i := 4) (v := ?_) (by rfl) (by kernel_rfl) (by kernel_rfl) (by kernel_rfl) (by exact fun _ _ _ h => h) (Or.inl ⟨by rfl, ?_⟩) hHeld ?_
 rotate_left
 ·(intro w hSw;(try dsimp only at hSw);go_simp;try with_reducible rfl)
 simp only [Act.put, List.getElem_toArray, List.getElem_cons_succ, List.getElem_cons_zero, List.setIfInBounds_toArray, List.set_cons_zero, List.set_cons_succ]
 refine wpAnyH_take (i := 5) (v := ?_) (by rfl) (by kernel_rfl) (by kernel_rfl) (by kernel_rfl) (by exact fun _ _ _ h => h) (Or.inl ⟨by rfl, ?_⟩) hHeld ?_
 rotate_left
 ·(intro w hSw;(try dsimp only at hSw);go_simp;try with_reducible rfl)
 simp only [Act.put, List.getElem_toArray, List.getElem_cons_succ, List.getElem_cons_zero, List.setIfInBounds_toArray, List.set_cons_zero, List.set_cons_succ]
 refine wpAnyH_take (i := 6) (v := undef) (by rfl) (by kernel_rfl) (by kernel_rfl) (by kernel_rfl) (by exact fun _ _ _ h => h) (Or.inr ⟨by rfl, rfl⟩) hHeld ?_
 simp only [Act.put, List.getElem_toArray, List.getElem_cons_succ, List.getElem_cons_zero, List.setIfInBounds_toArray, List.set_cons_zero, List.set_cons_succ]
 refine wpAnyH_take (i := 7) (v := undef) (by rfl) (by kernel_rfl) (by kernel_rfl) (by kernel_rfl) (by exact fun _ _ _ h => h) (Or.inr ⟨by rfl, rfl⟩) hHeld ?_
 simp only [Act.put, List.getElem_toArray, List.getElem_cons_succ, List.getElem_cons_zero, List.setIfInBounds_toArray, List.set_cons_zero, List.set_cons_succ]
 refine wpAnyH_take (i := 8) (v := undef) (by rfl) (by kernel_rfl) (by kernel_rfl) (by kernel_rfl) (by exact fun _ _ _ h => h) (Or.inr ⟨by rfl, rfl⟩) hHeld ?_
 simp only [Act.put, List.getElem_toArray, List.getElem_cons_succ, List.getElem_cons_zero, List.setIfInBounds_toArray, List.set_cons_zero, List.set_cons_succ]
 refine wpAnyH_take (i := 9) (v := undef) (by rfl) (by kernel_rfl) (by kernel_rfl) (by kernel_rfl) (by exact fun _ _ _ h => h) (Or.inr ⟨by rfl, rfl⟩) hHeld ?_
 simp only [Act.put, List.getElem_toArray, List.getElem_cons_succ, List.getElem_cons_zero, List.setIfInBounds_toArray, List.set_cons_zero, List.set_cons_succ]
 refine wpAnyH_take (i := 10) (v := undef) (by rfl) (by kernel_rfl) (by kernel_rfl) (by kernel_rfl) (by exact fun _ _ _ h => h) (Or.inr ⟨by rfl, rfl⟩) hHeld ?_
 simp only [Act.put, List.getElem_toArray, List.getElem_cons_succ, List.getElem_cons_zero, List.setIfInBounds_toArray, List.set_cons_zero, List.set_cons_succ]
 refine wpAnyH_take (i := 11) (v := undef) (by rfl) (by kernel_rfl) (by kernel_rfl) (by kernel_rfl) (by exact fun _ _ _ h => h) (Or.inr ⟨by rfl, rfl⟩) hHeld ?_
 simp only [Act.put, List.getElem_toArray, List.getElem_cons_succ, List.getElem_cons_zero, List.setIfInBounds_toArray, List.set_cons_zero, List.set_cons_succ]
 refine wpAnyH_take (i := 12) (v := undef) (by rfl) (by kernel_rfl) (by kernel_rfl) (by kernel_rfl) (by exact fun _ _ _ h => h) (Or.inr ⟨by rfl, rfl⟩) hHeld ?_
 simp only [Act.put, List.getElem_toArray, List.getElem_cons_succ, List.getElem_cons_zero, List.setIfInBounds_toArray, List.set_cons_zero, List.set_cons_succ]
 refine wpAnyH_take (i := 13) (v := undef) (by rfl) (by kernel_rfl) (by kernel_rfl) (by kernel_rfl) (by exact fun _ _ _ h => h) (Or.inr ⟨by rfl, rfl⟩) hHeld ?_
 simp only [Act.put, List.getElem_toArray, List.getElem_cons_succ, List.getElem_cons_zero, List.setIfInBounds_toArray, List.set_cons_zero, List.set_cons_succ]
 refine wpAnyH_take (i := 14) (v := undef) (by rfl) (by kernel_rfl) (by kernel_rfl) (by kernel_rfl) (by exact fun _ _ _ h => h) (Or.inr ⟨by rfl, rfl⟩) hHeld ?_
 simp only [Act.put, List.getElem_toArray, List.getElem_cons_succ, List.getElem_cons_zero, List.setIfInBounds_toArray, List.set_cons_zero, List.set_cons_succ]
 refine wpAnyH_take (i := 15) (v := undef) (by rfl) (by kernel_rfl) (by kernel_rfl) (by kernel_rfl) (by exact fun _ _ _ h => h) (Or.inr ⟨by rfl, rfl⟩) hHeld ?_
 simp only [Act.put, List.getElem_toArray, List.getElem_cons_succ, List.getElem_cons_zero, List.setIfInBounds_toArray, List.set_cons_zero, List.set_cons_succ]
 refine wpAnyH_take (i := 16) (v := undef) (by rfl) (by kernel_rfl) (by kernel_rfl) (by kernel_rfl) (by exact fun _ _ _ h => h) (Or.inr ⟨by rfl, rfl⟩) hHeld ?_
 simp only [Act.put, List.getElem_toArray, List.getElem_cons_succ, List.getElem_cons_zero, List.setIfInBounds_toArray, List.set_cons_zero, List.set_cons_succ]
 refine wpAnyH_take (i := 17) (v := undef) (by rfl) (by kernel_rfl) (by kernel_rfl) (by kernel_rfl) (by exact fun _ _ _ h => h) (Or.inr ⟨by rfl, rfl⟩) hHeld ?_
 simp only [Act.put, List.getElem_toArray, List.getElem_cons_succ, List.getElem_cons_zero, List.setIfInBounds_toArray, List.set_cons_zero, List.set_cons_succ]
 refine wpAnyH_take (i := 18) (v := ?_) (by rfl) (by kernel_rfl) (by kernel_rfl) (by kernel_rfl) (by exact fun _ _ _ h => h) (Or.inl ⟨by rfl, ?_⟩) hHeld ?_
 rotate_left
 ·(intro w hSw;(try dsimp only at hSw);go_simp;try with_reducible rfl)
 simp only [Act.put, List.getElem_toArray, List.getElem_cons_succ, List.getElem_cons_zero, List.setIfInBounds_toArray, List.set_cons_zero, List.set_cons_succ]
 refine wpAnyH_take (i := 19) (v := ?_) (by rfl) (by kernel_rfl) (by kernel_rfl) (by kernel_rfl) (by exact fun _ _ _ h => h) (Or.inl ⟨by rfl, ?_⟩) hHeld ?_
 rotate_left
 ·(intro w hSw;(try dsimp only at hSw);go_simp;try with_reducible rfl)
 simp only [Act.put, List.getElem_toArray, List.getElem_cons_succ, List.getElem_cons_zero, List.setIfInBounds_toArray, List.set_cons_zero, List.set_cons_succ]
 try simp only [Act.put, List.getElem_toArray, List.getElem_cons_succ, List.getElem_cons_zero, List.setIfInBounds_toArray, List.set_cons_zero, List.set_cons_succ]
 refine wpAnyH_done (by kernel_rfl) ?_ _
 go_wp2
 go_ret
 exact ⟨rfl, (((h.set 13 _).alloc _).alloc _).drew, (((But.setCell (S := fun k => k = p) (But.refl _ w) (p := ⟨p, 13, none⟩) (.inl rfl) _).alloc _).alloc _).drew⟩
set_option maxRecDepth 100000 in
set_option maxHeartbeats 4000000 in
theorem pieces_G {vout vin voff vdec vpings vbegan vorder vblock : Value} {all beg frames tab sts last of away bad : Int} {first ends closed : Bool} {p : Nat} {ty fl st pad code la inc dep wt xc xs : Int} {sole xi : Bool} {da : Bytes} {sa : Option Addr} {sn sc : Nat} (w : World) (h : Blk w p 97 #[vout, vin, .int .i64 all, .int .i64 beg, voff, vdec, .int .i64 frames, .int .i64 tab, .int .i64 sts, vpings, .int .i64 last, vbegan, vorder, .bool false, .int .i64 0, .bool ends, vblock, .int .i64 away, .bool closed, .int .i64 bad]) :
  Calls Tryz.prog 49 #[Ptr p, .agg #[.int .i64 7, .int .i64 fl, .int .i64 st, S da, .int .i64 pad, .slice sa sn sc, .int .i64 code, .int .i64 la, .int .i64 inc, .int .i64 dep, .int .i64 wt, .bool sole, .bool xi, .int .i64 xc, .int .i64 xs]] w fun e w' => e = .returned (.int .i64 0) ∧ Blk w' p 97 #[vout, vin, .int .i64 all, .int .i64 beg, voff, vdec, .int .i64 frames, .int .i64 tab, .int .i64 sts, vpings, .int .i64 last, vbegan, vorder, .bool false, .int .i64 0, .bool ends, vblock, .int .i64 away, .bool closed, .int .i64 bad] ∧ But (fun k => k = p) w w' := by
 have y0 : w.cell? ⟨p, 0, none⟩ = some (vout) := h.cell 0
 have y1 : w.cell? ⟨p, 1, none⟩ = some (vin) := h.cell 1
 have y2 : w.cell? ⟨p, 2, none⟩ = some (.int .i64 all) := h.cell 2
 have y3 : w.cell? ⟨p, 3, none⟩ = some (.int .i64 beg) := h.cell 3
 have y4 : w.cell? ⟨p, 4, none⟩ = some (voff) := h.cell 4
 have y5 : w.cell? ⟨p, 5, none⟩ = some (vdec) := h.cell 5
 have y6 : w.cell? ⟨p, 6, none⟩ = some (.int .i64 frames) := h.cell 6
 have y7 : w.cell? ⟨p, 7, none⟩ = some (.int .i64 tab) := h.cell 7
 have y8 : w.cell? ⟨p, 8, none⟩ = some (.int .i64 sts) := h.cell 8
 have y9 : w.cell? ⟨p, 9, none⟩ = some (vpings) := h.cell 9
 have y10 : w.cell? ⟨p, 10, none⟩ = some (.int .i64 last) := h.cell 10
 have y11 : w.cell? ⟨p, 11, none⟩ = some (vbegan) := h.cell 11
 have y12 : w.cell? ⟨p, 12, none⟩ = some (vorder) := h.cell 12
 have y13 : w.cell? ⟨p, 13, none⟩ = some (.bool false) := h.cell 13
 have y14 : w.cell? ⟨p, 14, none⟩ = some (.int .i64 0) := h.cell 14
 have y15 : w.cell? ⟨p, 15, none⟩ = some (.bool ends) := h.cell 15
 have y16 : w.cell? ⟨p, 16, none⟩ = some (vblock) := h.cell 16
 have y17 : w.cell? ⟨p, 17, none⟩ = some (.int .i64 away) := h.cell 17
 have y18 : w.cell? ⟨p, 18, none⟩ = some (.bool closed) := h.cell 18
 have y19 : w.cell? ⟨p, 19, none⟩ = some (.int .i64 bad) := h.cell 19
 have hlt := h.lt
 have f13 := h.free 13
 go_enter Tryz.func49, Tryz.ntmps49
 go_upto_region 4 with fail
 refine wp_region_held_drew (S := (fun wx => wx.cell? ⟨p, 14, none⟩ = some (.int .i64 0))) (by kernel_rfl) (((h.alloc _).alloc _).drew.cell 14) (fun hHeld => ?_)
 refine wpAnyH_take (i := 0) (v := ?_) (by rfl) (by kernel_rfl) (by kernel_rfl) (by kernel_rfl) (by exact fun _ _ _ h => h) (Or.inl ⟨by rfl, ?_⟩) hHeld ?_
 rotate_left
 ·(intro w hSw;(try dsimp only at hSw);go_simp;try with_reducible rfl)
 simp only [Act.put, List.getElem_toArray, List.getElem_cons_succ, List.getElem_cons_zero, List.setIfInBounds_toArray, List.set_cons_zero, List.set_cons_succ]
 refine wpAnyH_take (i := 1) (v := ?_) (by rfl) (by kernel_rfl) (by kernel_rfl) (by kernel_rfl) (by exact fun _ _ _ h => h) (Or.inl ⟨by rfl, ?_⟩) hHeld ?_
 rotate_left
 ·(intro w hSw;(try dsimp only at hSw);go_simp;try with_reducible rfl)
 simp only [Act.put, List.getElem_toArray, List.getElem_cons_succ, List.getElem_cons_zero, List.setIfInBounds_toArray, List.set_cons_zero, List.set_cons_succ]
 refine wpAnyH_take (i := 2) (v := ?_) (by rfl) (by kernel_rfl) (by kernel_rfl) (by kernel_rfl) (by exact fun _ _ _ h => h) (Or.inl ⟨by rfl, ?_⟩) hHeld ?_
 rotate_left
 ·(intro w hSw;(try dsimp only at hSw);go_simp;try with_reducible rfl)
 simp only [Act.put, List.getElem_toArray, List.getElem_cons_succ, List.getElem_cons_zero, List.setIfInBounds_toArray, List.set_cons_zero, List.set_cons_succ]
 refine wpAnyH_take (i := 3) (v := ?_) (by rfl) (by kernel_rfl) (by kernel_rfl) (by kernel_rfl) (by exact fun _ _ _ h => h) (Or.inl ⟨by rfl, ?_⟩) hHeld ?_
 rotate_left
 ·(intro w hSw;(try dsimp only at hSw);go_simp;try with_reducible rfl)
 simp only [Act.put, List.getElem_toArray, List.getElem_cons_succ, List.getElem_cons_zero, List.setIfInBounds_toArray, List.set_cons_zero, List.set_cons_succ]
 refine wpAnyH_take (i := 4) (v := ?_) (by rfl) (by kernel_rfl) (by kernel_rfl) (by kernel_rfl) (by exact fun _ _ _ h => h) (Or.inl ⟨by rfl, ?_⟩) hHeld ?_
 rotate_left
 ·(intro w hSw;(try dsimp only at hSw);go_simp;try with_reducible rfl)
 simp only [Act.put, List.getElem_toArray, List.getElem_cons_succ, List.getElem_cons_zero, List.setIfInBounds_toArray, List.set_cons_zero, List.set_cons_succ]
 refine wpAnyH_take (i := 5) (v := ?_) (by rfl) (by kernel_rfl) (by kernel_rfl) (by kernel_rfl) (by exact fun _ _ _ h => h) (Or.inl ⟨by rfl, ?_⟩) hHeld ?_
 rotate_left
 ·(intro w hSw;(try dsimp only at hSw);go_simp;try with_reducible rfl)
 simp only [Act.put, List.getElem_toArray, List.getElem_cons_succ, List.getElem_cons_zero, List.setIfInBounds_toArray, List.set_cons_zero, List.set_cons_succ]
 refine wpAnyH_take (i := 6) (v := undef) (by rfl) (by kernel_rfl) (by kernel_rfl) (by kernel_rfl) (by exact fun _ _ _ h => h) (Or.inr ⟨by rfl, rfl⟩) hHeld ?_
 simp only [Act.put, List.getElem_toArray, List.getElem_cons_succ, List.getElem_cons_zero, List.setIfInBounds_toArray, List.set_cons_zero, List.set_cons_succ]
 refine wpAnyH_take (i := 7) (v := undef) (by rfl) (by kernel_rfl) (by kernel_rfl) (by kernel_rfl) (by exact fun _ _ _ h => h) (Or.inr ⟨by rfl, rfl⟩) hHeld ?_
 simp only [Act.put, List.getElem_toArray, List.getElem_cons_succ, List.getElem_cons_zero, List.setIfInBounds_toArray, List.set_cons_zero, List.set_cons_succ]
 refine wpAnyH_take (i := 8) (v := undef) (by rfl) (by kernel_rfl) (by kernel_rfl) (by kernel_rfl) (by exact fun _ _ _ h => h) (Or.inr ⟨by rfl, rfl⟩) hHeld ?_
 simp only [Act.put, List.getElem_toArray, List.getElem_cons_succ, List.getElem_cons_zero, List.setIfInBounds_toArray, List.set_cons_zero, List.set_cons_succ]
 refine wpAnyH_take (i := 9) (v := undef) (by rfl) (by kernel_rfl) (by kernel_rfl) (by kernel_rfl) (by exact fun _ _ _ h => h) (Or.inr ⟨by rfl, rfl⟩) hHeld ?_
 simp only [Act.put, List.getElem_toArray, List.getElem_cons_succ, List.getElem_cons_zero, List.setIfInBounds_toArray, List.set_cons_zero, List.set_cons_succ]
 refine wpAnyH_take (i := 10) (v := undef) (by rfl) (by kernel_rfl) (by kernel_rfl) (by kernel_rfl) (by exact fun _ _ _ h => h) (Or.inr ⟨by rfl, rfl⟩) hHeld ?_
 simp only [Act.put, List.getElem_toArray, List.getElem_cons_succ, List.getElem_cons_zero, List.setIfInBounds_toArray, List.set_cons_zero, List.set_cons_succ]
 refine wpAnyH_take (i := 11) (v := undef) (by rfl) (by kernel_rfl) (by kernel_rfl) (by kernel_rfl) (by exact fun _ _ _ h => h) (Or.inr ⟨by rfl, rfl⟩) hHeld ?_
 simp only [Act.put, List.getElem_toArray, List.getElem_cons_succ, List.getElem_cons_zero, List.setIfInBounds_toArray, List.set_cons_zero, List.set_cons_succ]
 refine wpAnyH_take (i := 12) (v := undef) (by rfl) (by kernel_rfl) (by kernel_rfl) (by kernel_rfl) (by exact fun _ _ _ h => h) (Or.inr ⟨by rfl, rfl⟩) hHeld ?_
 simp only [Act.put, List.getElem_toArray, List.getElem_cons_succ, List.getElem_cons_zero, List.setIfInBounds_toArray, List.set_cons_zero, List.set_cons_succ]
 refine wpAnyH_take (i := 13) (v := undef) (by rfl) (by kernel_rfl) (by kernel_rfl) (by kernel_rfl) (by exact fun _ _ _ h => h) (Or.inr ⟨by rfl, rfl⟩) hHeld ?_
 simp only [Act.put, List.getElem_toArray, List.getElem_cons_succ, List.getElem_cons_zero, List.setIfInBounds_toArray, List.set_cons_zero, List.set_cons_succ]
 refine wpAnyH_take (i := 14) (v := undef) (by rfl) (by kernel_rfl) (by kernel_rfl) (by kernel_rfl) (by exact fun _ _ _ h => h) (Or.inr ⟨by rfl, rfl⟩) hHeld ?_
 simp only [Act.put, List.getElem_toArray, List.getElem_cons_succ, List.getElem_cons_zero, List.setIfInBounds_toArray, List.set_cons_zero, List.set_cons_succ]
 refine wpAnyH_take (i := 15) (v := undef) (by rfl) (by kernel_rfl) (by kernel_rfl) (by kernel_rfl) (by exact fun _ _ _ h => h) (Or.inr ⟨by rfl, rfl⟩) hHeld ?_
 simp only [Act.put, List.getElem_toArray, List.getElem_cons_succ, List.getElem_cons_zero, List.setIfInBounds_toArray, List.set_cons_zero, List.set_cons_succ]
 refine wpAnyH_take (i := 16) (v := undef) (by rfl) (by kernel_rfl) (by kernel_rfl) (by kernel_rfl) (by exact fun _ _ _ h => h) (Or.inr ⟨by rfl, rfl⟩) hHeld ?_
 simp only [Act.put, List.getElem_toArray, List.getElem_cons_succ, List.getElem_cons_zero, List.setIfInBounds_toArray, List.set_cons_zero, List.set_cons_succ]
 refine wpAnyH_take (i := 17) (v := undef) (by rfl) (by kernel_rfl) (by kernel_rfl) (by kernel_rfl) (by exact fun _ _ _ h => h) (Or.inr ⟨by rfl, rfl⟩) hHeld ?_
 simp only [Act.put, List.getElem_toArray, List.getElem_cons_succ, List.getElem_cons_zero, List.setIfInBounds_toArray, List.set_cons_zero, List.set_cons_succ]
 refine wpAnyH_take (i := 18) (v := ?_) (by rfl) (by kernel_rfl) (by kernel_rfl) (by kernel_rfl) (by exact fun _ _ _ h => h) (Or.inl ⟨by rfl, ?_⟩) hHeld ?_
 rotate_left
 ·(intro w hSw;(try dsimp only at hSw);go_simp;try with_reducible rfl)
 simp only [Act.put, List.getElem_toArray, List.getElem_cons_succ, List.getElem_cons_zero, List.setIfInBounds_toArray, List.set_cons_zero, List.set_cons_succ]
 refine wpAnyH_take (i := 19) (v := ?_) (by rfl) (by kernel_rfl) (by kernel_rfl) (by kernel_rfl) (by exact fun _ _ _ h => h) (Or.inl ⟨by rfl, ?_⟩) hHeld ?_
 rotate_left
 ·(intro w hSw;(try dsimp only at hSw);go_simp;try with_reducible rfl)
 simp only [Act.put, List.getElem_toArray, List.getElem_cons_succ, List.getElem_cons_zero, List.setIfInBounds_toArray, List.set_cons_zero, List.set_cons_succ]
 try simp only [Act.put, List.getElem_toArray, List.getElem_cons_succ, List.getElem_cons_zero, List.setIfInBounds_toArray, List.set_cons_zero, List.set_cons_succ]
 refine wpAnyH_done (by kernel_rfl) ?_ _
 go_wp2
 go_ret
 exact ⟨rfl, (((h.set 13 _).alloc _).alloc _).drew, (((But.setCell (S := fun k => k = p) (But.refl _ w) (p := ⟨p, 13, none⟩) (.inl rfl) _).alloc _).alloc _).drew⟩
set_option maxRecDepth 100000 in
set_option maxHeartbeats 4000000 in
theorem whole_D1 {vout vin voff vdec vpings vbegan vorder vblock : Value} {all beg frames tab sts last of away bad : Int} {first ends closed : Bool} {p : Nat} {ty fl st pad code la inc dep wt xc xs : Int} {sole xi : Bool} {da : Bytes} {sa : Option Addr} {sn sc : Nat} (w : World) (h : Blk w p 97 #[vout, vin, .int .i64 all, .int .i64 beg, voff, vdec, .int .i64 frames, .int .i64 tab, .int .i64 sts, vpings, .int .i64 last, vbegan, vorder, .bool first, .int .i64 of, .bool ends, vblock, .int .i64 away, .bool closed, .int .i64 bad]) :
  Calls Tryz.prog 50 #[Ptr p, .agg #[.int .i64 0, .int .i64 1, .int .i64 st, S da, .int .i64 pad, .slice sa sn sc, .int .i64 code, .int .i64 la, .int .i64 inc, .int .i64 dep, .int .i64 wt, .bool sole, .bool xi, .int .i64 xc, .int .i64 xs]] w fun e w' => e = .returned (.int .i64 0) ∧ Below w.heap.size w w' := by
 have y0 : w.cell? ⟨p, 0, none⟩ = some (vout) := h.cell 0
 have y1 : w.cell? ⟨p, 1, none⟩ = some (vin) := h.cell 1
 have y2 : w.cell? ⟨p, 2, none⟩ = some (.int .i64 all) := h.cell 2
 have y3 : w.cell? ⟨p, 3, none⟩ = some (.int .i64 beg) := h.cell 3
 have y4 : w.cell? ⟨p, 4, none⟩ = some (voff) := h.cell 4
 have y5 : w.cell? ⟨p, 5, none⟩ = some (vdec) := h.cell 5
 have y6 : w.cell? ⟨p, 6, none⟩ = some (.int .i64 frames) := h.cell 6
 have y7 : w.cell? ⟨p, 7, none⟩ = some (.int .i64 tab) := h.cell 7
 have y8 : w.cell? ⟨p, 8, none⟩ = some (.int .i64 sts) := h.cell 8
 have y9 : w.cell? ⟨p, 9, none⟩ = some (vpings) := h.cell 9
 have y10 : w.cell? ⟨p, 10, none⟩ = some (.int .i64 last) := h.cell 10
 have y11 : w.cell? ⟨p, 11, none⟩ = some (vbegan) := h.cell 11
 have y12 : w.cell? ⟨p, 12, none⟩ = some (vorder) := h.cell 12
 have y13 : w.cell? ⟨p, 13, none⟩ = some (.bool first) := h.cell 13
 have y14 : w.cell? ⟨p, 14, none⟩ = some (.int .i64 of) := h.cell 14
 have y15 : w.cell? ⟨p, 15, none⟩ = some (.bool ends) := h.cell 15
 have y16 : w.cell? ⟨p, 16, none⟩ = some (vblock) := h.cell 16
 have y17 : w.cell? ⟨p, 17, none⟩ = some (.int .i64 away) := h.cell 17
 have y18 : w.cell? ⟨p, 18, none⟩ = some (.bool closed) := h.cell 18
 have y19 : w.cell? ⟨p, 19, none⟩ = some (.int .i64 bad) := h.cell 19
 have hlt := h.lt
 have b1 : bits .and .i64 1 1 = 1 := by decide
 go_enter Tryz.func50, Tryz.ntmps50
 go_wp2
 all_goals go_ret
 all_goals exact ⟨rfl, by repeat (first | (with_reducible exact Below.refl _ _) | (with_reducible refine Below.drew ?_) | ((with_reducible refine Below.alloc ?_ ?_ _);rotate_left;(first | omega | exact (by simp <;> omega))))⟩
set_option maxRecDepth 100000 in
set_option maxHeartbeats 4000000 in
theorem whole_R {vout vin voff vdec vpings vbegan vorder vblock : Value} {all beg frames tab sts last of away bad : Int} {first ends closed : Bool} {p : Nat} {ty fl st pad code la inc dep wt xc xs : Int} {sole xi : Bool} {da : Bytes} {sa : Option Addr} {sn sc : Nat} (w : World) (h : Blk w p 97 #[vout, vin, .int .i64 all, .int .i64 beg, voff, vdec, .int .i64 frames, .int .i64 tab, .int .i64 sts, vpings, .int .i64 last, vbegan, vorder, .bool first, .int .i64 of, .bool ends, vblock, .int .i64 away, .bool closed, .int .i64 bad]) :
  Calls Tryz.prog 50 #[Ptr p, .agg #[.int .i64 3, .int .i64 0, .int .i64 st, S da, .int .i64 pad, .slice sa sn sc, .int .i64 code, .int .i64 la, .int .i64 inc, .int .i64 dep, .int .i64 wt, .bool sole, .bool xi, .int .i64 xc, .int .i64 xs]] w fun e w' => e = .returned (.int .i64 0) ∧ Below w.heap.size w w' := by
 have y0 : w.cell? ⟨p, 0, none⟩ = some (vout) := h.cell 0
 have y1 : w.cell? ⟨p, 1, none⟩ = some (vin) := h.cell 1
 have y2 : w.cell? ⟨p, 2, none⟩ = some (.int .i64 all) := h.cell 2
 have y3 : w.cell? ⟨p, 3, none⟩ = some (.int .i64 beg) := h.cell 3
 have y4 : w.cell? ⟨p, 4, none⟩ = some (voff) := h.cell 4
 have y5 : w.cell? ⟨p, 5, none⟩ = some (vdec) := h.cell 5
 have y6 : w.cell? ⟨p, 6, none⟩ = some (.int .i64 frames) := h.cell 6
 have y7 : w.cell? ⟨p, 7, none⟩ = some (.int .i64 tab) := h.cell 7
 have y8 : w.cell? ⟨p, 8, none⟩ = some (.int .i64 sts) := h.cell 8
 have y9 : w.cell? ⟨p, 9, none⟩ = some (vpings) := h.cell 9
 have y10 : w.cell? ⟨p, 10, none⟩ = some (.int .i64 last) := h.cell 10
 have y11 : w.cell? ⟨p, 11, none⟩ = some (vbegan) := h.cell 11
 have y12 : w.cell? ⟨p, 12, none⟩ = some (vorder) := h.cell 12
 have y13 : w.cell? ⟨p, 13, none⟩ = some (.bool first) := h.cell 13
 have y14 : w.cell? ⟨p, 14, none⟩ = some (.int .i64 of) := h.cell 14
 have y15 : w.cell? ⟨p, 15, none⟩ = some (.bool ends) := h.cell 15
 have y16 : w.cell? ⟨p, 16, none⟩ = some (vblock) := h.cell 16
 have y17 : w.cell? ⟨p, 17, none⟩ = some (.int .i64 away) := h.cell 17
 have y18 : w.cell? ⟨p, 18, none⟩ = some (.bool closed) := h.cell 18
 have y19 : w.cell? ⟨p, 19, none⟩ = some (.int .i64 bad) := h.cell 19
 have hlt := h.lt
 have b0 : bits .and .i64 0 1 = 0 := by decide
 go_enter Tryz.func50, Tryz.ntmps50
 go_wp2
 all_goals go_ret
 all_goals exact ⟨rfl, by repeat (first | (with_reducible exact Below.refl _ _) | (with_reducible refine Below.drew ?_) | ((with_reducible refine Below.alloc ?_ ?_ _);rotate_left;(first | omega | exact (by simp <;> omega))))⟩
set_option maxRecDepth 100000 in
set_option maxHeartbeats 4000000 in
theorem streams_G {vout vin voff vdec vpings vbegan vorder vblock : Value} {all beg frames tab sts last of away bad : Int} {first ends closed : Bool} {p : Nat} {ty fl st pad code la inc dep wt xc xs : Int} {sole xi : Bool} {da : Bytes} {sa : Option Addr} {sn sc : Nat} (w : World) (h : Blk w p 97 #[vout, vin, .int .i64 all, .int .i64 beg, voff, vdec, .int .i64 frames, .int .i64 tab, .int .i64 sts, vpings, .int .i64 last, vbegan, vorder, .bool first, .int .i64 of, .bool ends, vblock, .int .i64 away, .bool closed, .int .i64 bad]) :
  Calls Tryz.prog 51 #[Ptr p, .agg #[.int .i64 7, .int .i64 fl, .int .i64 st, S da, .int .i64 pad, .slice sa sn sc, .int .i64 code, .int .i64 la, .int .i64 inc, .int .i64 dep, .int .i64 wt, .bool sole, .bool xi, .int .i64 xc, .int .i64 xs]] w fun e w' => e = .returned (.int .i64 0) ∧ Below w.heap.size w w' := by
 have y0 : w.cell? ⟨p, 0, none⟩ = some (vout) := h.cell 0
 have y1 : w.cell? ⟨p, 1, none⟩ = some (vin) := h.cell 1
 have y2 : w.cell? ⟨p, 2, none⟩ = some (.int .i64 all) := h.cell 2
 have y3 : w.cell? ⟨p, 3, none⟩ = some (.int .i64 beg) := h.cell 3
 have y4 : w.cell? ⟨p, 4, none⟩ = some (voff) := h.cell 4
 have y5 : w.cell? ⟨p, 5, none⟩ = some (vdec) := h.cell 5
 have y6 : w.cell? ⟨p, 6, none⟩ = some (.int .i64 frames) := h.cell 6
 have y7 : w.cell? ⟨p, 7, none⟩ = some (.int .i64 tab) := h.cell 7
 have y8 : w.cell? ⟨p, 8, none⟩ = some (.int .i64 sts) := h.cell 8
 have y9 : w.cell? ⟨p, 9, none⟩ = some (vpings) := h.cell 9
 have y10 : w.cell? ⟨p, 10, none⟩ = some (.int .i64 last) := h.cell 10
 have y11 : w.cell? ⟨p, 11, none⟩ = some (vbegan) := h.cell 11
 have y12 : w.cell? ⟨p, 12, none⟩ = some (vorder) := h.cell 12
 have y13 : w.cell? ⟨p, 13, none⟩ = some (.bool first) := h.cell 13
 have y14 : w.cell? ⟨p, 14, none⟩ = some (.int .i64 of) := h.cell 14
 have y15 : w.cell? ⟨p, 15, none⟩ = some (.bool ends) := h.cell 15
 have y16 : w.cell? ⟨p, 16, none⟩ = some (vblock) := h.cell 16
 have y17 : w.cell? ⟨p, 17, none⟩ = some (.int .i64 away) := h.cell 17
 have y18 : w.cell? ⟨p, 18, none⟩ = some (.bool closed) := h.cell 18
 have y19 : w.cell? ⟨p, 19, none⟩ = some (.int .i64 bad) := h.cell 19
 have hlt := h.lt
 go_enter Tryz.func51, Tryz.ntmps51
 go_wp2
 all_goals go_ret
 all_goals exact ⟨rfl, by repeat (first | (with_reducible exact Below.refl _ _) | (with_reducible refine Below.drew ?_) | ((with_reducible refine Below.alloc ?_ ?_ _);rotate_left;(first | omega | exact (by simp <;> omega))))⟩
set_option maxRecDepth 100000 in
set_option maxHeartbeats 4000000 in
theorem data_G {vout vin voff vdec vpings vbegan vorder vblock : Value} {all beg frames tab sts last of away bad : Int} {first ends closed : Bool} {p : Nat} {ty fl st pad code la inc dep wt xc xs : Int} {sole xi : Bool} {da : Bytes} {sa : Option Addr} {sn sc : Nat} (w : World) (h : Blk w p 97 #[vout, vin, .int .i64 all, .int .i64 beg, voff, vdec, .int .i64 frames, .int .i64 tab, .int .i64 sts, vpings, .int .i64 last, vbegan, vorder, .bool first, .int .i64 of, .bool ends, vblock, .int .i64 away, .bool closed, .int .i64 bad]) :
  Calls Tryz.prog 52 #[Ptr p, .agg #[.int .i64 7, .int .i64 fl, .int .i64 st, S da, .int .i64 pad, .slice sa sn sc, .int .i64 code, .int .i64 la, .int .i64 inc, .int .i64 dep, .int .i64 wt, .bool sole, .bool xi, .int .i64 xc, .int .i64 xs]] w fun e w' => e = .returned (.int .i64 0) ∧ Below w.heap.size w w' := by
 have y0 : w.cell? ⟨p, 0, none⟩ = some (vout) := h.cell 0
 have y1 : w.cell? ⟨p, 1, none⟩ = some (vin) := h.cell 1
 have y2 : w.cell? ⟨p, 2, none⟩ = some (.int .i64 all) := h.cell 2
 have y3 : w.cell? ⟨p, 3, none⟩ = some (.int .i64 beg) := h.cell 3
 have y4 : w.cell? ⟨p, 4, none⟩ = some (voff) := h.cell 4
 have y5 : w.cell? ⟨p, 5, none⟩ = some (vdec) := h.cell 5
 have y6 : w.cell? ⟨p, 6, none⟩ = some (.int .i64 frames) := h.cell 6
 have y7 : w.cell? ⟨p, 7, none⟩ = some (.int .i64 tab) := h.cell 7
 have y8 : w.cell? ⟨p, 8, none⟩ = some (.int .i64 sts) := h.cell 8
 have y9 : w.cell? ⟨p, 9, none⟩ = some (vpings) := h.cell 9
 have y10 : w.cell? ⟨p, 10, none⟩ = some (.int .i64 last) := h.cell 10
 have y11 : w.cell? ⟨p, 11, none⟩ = some (vbegan) := h.cell 11
 have y12 : w.cell? ⟨p, 12, none⟩ = some (vorder) := h.cell 12
 have y13 : w.cell? ⟨p, 13, none⟩ = some (.bool first) := h.cell 13
 have y14 : w.cell? ⟨p, 14, none⟩ = some (.int .i64 of) := h.cell 14
 have y15 : w.cell? ⟨p, 15, none⟩ = some (.bool ends) := h.cell 15
 have y16 : w.cell? ⟨p, 16, none⟩ = some (vblock) := h.cell 16
 have y17 : w.cell? ⟨p, 17, none⟩ = some (.int .i64 away) := h.cell 17
 have y18 : w.cell? ⟨p, 18, none⟩ = some (.bool closed) := h.cell 18
 have y19 : w.cell? ⟨p, 19, none⟩ = some (.int .i64 bad) := h.cell 19
 have hlt := h.lt
 go_enter Tryz.func52, Tryz.ntmps52
 go_wp2
 all_goals go_ret
 all_goals exact ⟨rfl, by repeat (first | (with_reducible exact Below.refl _ _) | (with_reducible refine Below.drew ?_) | ((with_reducible refine Below.alloc ?_ ?_ _);rotate_left;(first | omega | exact (by simp <;> omega))))⟩
set_option maxRecDepth 100000 in
set_option maxHeartbeats 4000000 in
theorem piece_G {vout vin voff vdec vpings vbegan vorder vblock : Value} {all beg frames tab sts last of away bad : Int} {first ends closed : Bool} {p : Nat} {ty fl st pad code la inc dep wt xc xs : Int} {sole xi : Bool} {da : Bytes} {sa : Option Addr} {sn sc : Nat} (w : World) (h : Blk w p 97 #[vout, vin, .int .i64 all, .int .i64 beg, voff, vdec, .int .i64 frames, .int .i64 tab, .int .i64 sts, vpings, .int .i64 last, vbegan, vorder, .bool first, .int .i64 of, .bool ends, vblock, .int .i64 away, .bool closed, .int .i64 bad]) :
  Calls Tryz.prog 53 #[Ptr p, .agg #[.int .i64 7, .int .i64 fl, .int .i64 st, S da, .int .i64 pad, .slice sa sn sc, .int .i64 code, .int .i64 la, .int .i64 inc, .int .i64 dep, .int .i64 wt, .bool sole, .bool xi, .int .i64 xc, .int .i64 xs]] w fun e w' => e = .returned (.int .i64 0) ∧ Below w.heap.size w w' := by
 have y0 : w.cell? ⟨p, 0, none⟩ = some (vout) := h.cell 0
 have y1 : w.cell? ⟨p, 1, none⟩ = some (vin) := h.cell 1
 have y2 : w.cell? ⟨p, 2, none⟩ = some (.int .i64 all) := h.cell 2
 have y3 : w.cell? ⟨p, 3, none⟩ = some (.int .i64 beg) := h.cell 3
 have y4 : w.cell? ⟨p, 4, none⟩ = some (voff) := h.cell 4
 have y5 : w.cell? ⟨p, 5, none⟩ = some (vdec) := h.cell 5
 have y6 : w.cell? ⟨p, 6, none⟩ = some (.int .i64 frames) := h.cell 6
 have y7 : w.cell? ⟨p, 7, none⟩ = some (.int .i64 tab) := h.cell 7
 have y8 : w.cell? ⟨p, 8, none⟩ = some (.int .i64 sts) := h.cell 8
 have y9 : w.cell? ⟨p, 9, none⟩ = some (vpings) := h.cell 9
 have y10 : w.cell? ⟨p, 10, none⟩ = some (.int .i64 last) := h.cell 10
 have y11 : w.cell? ⟨p, 11, none⟩ = some (vbegan) := h.cell 11
 have y12 : w.cell? ⟨p, 12, none⟩ = some (vorder) := h.cell 12
 have y13 : w.cell? ⟨p, 13, none⟩ = some (.bool first) := h.cell 13
 have y14 : w.cell? ⟨p, 14, none⟩ = some (.int .i64 of) := h.cell 14
 have y15 : w.cell? ⟨p, 15, none⟩ = some (.bool ends) := h.cell 15
 have y16 : w.cell? ⟨p, 16, none⟩ = some (vblock) := h.cell 16
 have y17 : w.cell? ⟨p, 17, none⟩ = some (.int .i64 away) := h.cell 17
 have y18 : w.cell? ⟨p, 18, none⟩ = some (.bool closed) := h.cell 18
 have y19 : w.cell? ⟨p, 19, none⟩ = some (.int .i64 bad) := h.cell 19
 have hlt := h.lt
 go_enter Tryz.func53, Tryz.ntmps53
 go_wp2
 all_goals go_ret
 all_goals exact ⟨rfl, by repeat (first | (with_reducible exact Below.refl _ _) | (with_reducible refine Below.drew ?_) | ((with_reducible refine Below.alloc ?_ ?_ _);rotate_left;(first | omega | exact (by simp <;> omega))))⟩
set_option maxRecDepth 100000 in
set_option maxHeartbeats 4000000 in
theorem length_D1 {st code la inc dep wt : Int} {sole : Bool} {sa : Option Addr} {sc : Nat} (l : Bytes) (hl : l.length ≤ 1048576) (w : World) :
  Calls Tryz.prog 85 #[.agg #[.int .i64 0, .int .i64 1, .int .i64 st, S l, .int .i64 0, .slice sa 0 sc, .int .i64 code, .int .i64 la, .int .i64 inc, .int .i64 dep, .int .i64 wt, .bool sole]] w fun e w' => e = .returned (.int .i64 (l.length : Nat)) ∧ Below w.heap.size w w' := by
 have b1 : bits .and .i64 1 8 = 0 := by decide
 go_enter Tryz.func85, Tryz.ntmps85
 go_wp2
 all_goals go_ret
 all_goals exact ⟨rfl, by repeat (first | (with_reducible exact Below.refl _ _) | (with_reducible refine Below.drew ?_) | ((with_reducible refine Below.alloc ?_ ?_ _);rotate_left;(first | omega | exact (by simp <;> omega))))⟩
set_option maxRecDepth 100000 in
set_option maxHeartbeats 4000000 in
theorem length_R {st code la inc dep wt : Int} {sole : Bool} {sa : Option Addr} {sc : Nat} (w : World) :
  Calls Tryz.prog 85 #[.agg #[.int .i64 3, .int .i64 0, .int .i64 st, S [], .int .i64 0, .slice sa 0 sc, .int .i64 code, .int .i64 la, .int .i64 inc, .int .i64 dep, .int .i64 wt, .bool sole]] w fun e w' => e = .returned (.int .i64 4) ∧ Below w.heap.size w w' := by
 go_enter Tryz.func85, Tryz.ntmps85
 go_wp2
 all_goals go_ret
 all_goals exact ⟨rfl, by repeat (first | (with_reducible exact Below.refl _ _) | (with_reducible refine Below.drew ?_) | ((with_reducible refine Below.alloc ?_ ?_ _);rotate_left;(first | omega | exact (by simp <;> omega))))⟩
set_option maxRecDepth 100000 in
set_option maxHeartbeats 4000000 in
theorem length_G {st code la inc dep wt : Int} {sole : Bool} {sa : Option Addr} {sc : Nat} (w : World) :
  Calls Tryz.prog 85 #[.agg #[.int .i64 7, .int .i64 0, .int .i64 st, S [], .int .i64 0, .slice sa 0 sc, .int .i64 code, .int .i64 la, .int .i64 inc, .int .i64 dep, .int .i64 wt, .bool sole]] w fun e w' => e = .returned (.int .i64 8) ∧ Below w.heap.size w w' := by
 go_enter Tryz.func85, Tryz.ntmps85
 go_wp2
 all_goals go_ret
 all_goals exact ⟨rfl, by repeat (first | (with_reducible exact Below.refl _ _) | (with_reducible refine Below.drew ?_) | ((with_reducible refine Below.alloc ?_ ?_ _);rotate_left;(first | omega | exact (by simp <;> omega))))⟩
set_option maxRecDepth 100000 in
set_option maxHeartbeats 4000000 in
theorem length_L {st code la inc dep wt : Int} {sole : Bool} {sa : Option Addr} {sc : Nat} (l : Bytes) (hl : l.length ≤ 1048576) (w : World) :
  Calls Tryz.prog 85 #[.agg #[.int .i64 0, .int .i64 0, .int .i64 st, S l, .int .i64 0, .slice sa 0 sc, .int .i64 code, .int .i64 la, .int .i64 inc, .int .i64 dep, .int .i64 wt, .bool sole]] w fun e w' => e = .returned (.int .i64 (l.length : Nat)) ∧ Below w.heap.size w w' := by
 have b0 : bits .and .i64 0 8 = 0 := by decide
 go_enter Tryz.func85, Tryz.ntmps85
 go_wp2
 all_goals go_ret
 all_goals exact ⟨rfl, by repeat (first | (with_reducible exact Below.refl _ _) | (with_reducible refine Below.drew ?_) | ((with_reducible refine Below.alloc ?_ ?_ _);rotate_left;(first | omega | exact (by simp <;> omega))))⟩
set_option maxRecDepth 100000 in
set_option maxHeartbeats 4000000 in
theorem formed_D1 {vout vin voff vdec vpings vbegan vorder vblock : Value} {all beg frames tab sts last of away bad : Int} {first ends closed : Bool} {p : Nat} {ty fl st pad code la inc dep wt xc xs : Int} {sole xi : Bool} {da : Bytes} {sa : Option Addr} {sn sc : Nat} (l : Bytes) (hl : l.length ≤ 16384) (w : World) (h : Blk w p 97 #[vout, vin, .int .i64 all, .int .i64 beg, voff, vdec, .int .i64 16384, .int .i64 tab, .int .i64 sts, vpings, .int .i64 last, vbegan, vorder, .bool first, .int .i64 of, .bool ends, vblock, .int .i64 away, .bool closed, .int .i64 bad]) :
  Calls Tryz.prog 48 #[Ptr p, .agg #[.int .i64 0, .int .i64 1, .int .i64 st, S l, .int .i64 0, .slice sa 0 sc, .int .i64 code, .int .i64 la, .int .i64 inc, .int .i64 dep, .int .i64 wt, .bool sole, .bool false, .int .i64 xc, .int .i64 xs]] w fun e w' => e = .returned (.int .i64 0) ∧ Below w.heap.size w w' := by
 have y0 : w.cell? ⟨p, 0, none⟩ = some (vout) := h.cell 0
 have y1 : w.cell? ⟨p, 1, none⟩ = some (vin) := h.cell 1
 have y2 : w.cell? ⟨p, 2, none⟩ = some (.int .i64 all) := h.cell 2
 have y3 : w.cell? ⟨p, 3, none⟩ = some (.int .i64 beg) := h.cell 3
 have y4 : w.cell? ⟨p, 4, none⟩ = some (voff) := h.cell 4
 have y5 : w.cell? ⟨p, 5, none⟩ = some (vdec) := h.cell 5
 have y6 : w.cell? ⟨p, 6, none⟩ = some (.int .i64 16384) := h.cell 6
 have y7 : w.cell? ⟨p, 7, none⟩ = some (.int .i64 tab) := h.cell 7
 have y8 : w.cell? ⟨p, 8, none⟩ = some (.int .i64 sts) := h.cell 8
 have y9 : w.cell? ⟨p, 9, none⟩ = some (vpings) := h.cell 9
 have y10 : w.cell? ⟨p, 10, none⟩ = some (.int .i64 last) := h.cell 10
 have y11 : w.cell? ⟨p, 11, none⟩ = some (vbegan) := h.cell 11
 have y12 : w.cell? ⟨p, 12, none⟩ = some (vorder) := h.cell 12
 have y13 : w.cell? ⟨p, 13, none⟩ = some (.bool first) := h.cell 13
 have y14 : w.cell? ⟨p, 14, none⟩ = some (.int .i64 of) := h.cell 14
 have y15 : w.cell? ⟨p, 15, none⟩ = some (.bool ends) := h.cell 15
 have y16 : w.cell? ⟨p, 16, none⟩ = some (vblock) := h.cell 16
 have y17 : w.cell? ⟨p, 17, none⟩ = some (.int .i64 away) := h.cell 17
 have y18 : w.cell? ⟨p, 18, none⟩ = some (.bool closed) := h.cell 18
 have y19 : w.cell? ⟨p, 19, none⟩ = some (.int .i64 bad) := h.cell 19
 have hlt := h.lt
 have hq : ¬ (16384 : Int) < (l.length : Int) := by omega
 have hp1 := (h.alloc (.cells #[.int .i64 0, .int .i64 1, .int .i64 st, S l, .int .i64 0, .slice sa 0 sc, .int .i64 code, .int .i64 la, .int .i64 inc, .int .i64 dep, .int .i64 wt, .bool sole, .bool false, .int .i64 xc, .int .i64 xs] 74)).drew
 have hi1 := (Blk.new w 74 #[.int .i64 0, .int .i64 1, .int .i64 st, S l, .int .i64 0, .slice sa 0 sc, .int .i64 code, .int .i64 la, .int .i64 inc, .int .i64 dep, .int .i64 wt, .bool sole, .bool false, .int .i64 xc, .int .i64 xs]).drew
 have hw1 := ((Below.refl w.heap.size w).alloc (Nat.le_refl _) (.cells #[.int .i64 0, .int .i64 1, .int .i64 st, S l, .int .i64 0, .slice sa 0 sc, .int .i64 code, .int .i64 la, .int .i64 inc, .int .i64 dep, .int .i64 wt, .bool sole, .bool false, .int .i64 xc, .int .i64 xs] 74)).drew
 go_enter Tryz.func48, Tryz.ntmps48
 go_upto_region 1 with fail
 refine wp_region_held_drew (S := (fun wx => wx.cell? ⟨w.heap.size, 0, none⟩ = some (.int .i64 0) ∧ wx.cell? ⟨w.heap.size, 1, none⟩ = some (.int .i64 1) ∧ wx.cell? ⟨w.heap.size, 2, none⟩ = some (.int .i64 st) ∧ wx.cell? ⟨w.heap.size, 3, none⟩ = some (S l) ∧ wx.cell? ⟨w.heap.size, 4, none⟩ = some (.int .i64 0) ∧ wx.cell? ⟨w.heap.size, 5, none⟩ = some (.slice sa 0 sc) ∧ wx.cell? ⟨w.heap.size, 6, none⟩ = some (.int .i64 code) ∧ wx.cell? ⟨w.heap.size, 7, none⟩ = some (.int .i64 la) ∧ wx.cell? ⟨w.heap.size, 8, none⟩ = some (.int .i64 inc) ∧ wx.cell? ⟨w.heap.size, 9, none⟩ = some (.int .i64 dep) ∧ wx.cell? ⟨w.heap.size, 10, none⟩ = some (.int .i64 wt) ∧ wx.cell? ⟨w.heap.size, 11, none⟩ = some (.bool sole) ∧ wx.cell? ⟨w.heap.size, 12, none⟩ = some (.bool false) ∧ wx.cell? ⟨p, 6, none⟩ = some (.int .i64 16384))) (by kernel_rfl) ⟨hi1.cell 0, hi1.cell 1, hi1.cell 2, hi1.cell 3, hi1.cell 4, hi1.cell 5, hi1.cell 6, hi1.cell 7, hi1.cell 8, hi1.cell 9, hi1.cell 10, hi1.cell 11, hi1.cell 12, hp1.cell 6⟩ (fun hHeld => ?_)
 refine wpAnyH_take (i := 0) (v := ?_) (by rfl) (by kernel_rfl) (by kernel_rfl) (by kernel_rfl) (by exact fun _ _ _ h => h) (Or.inl ⟨by rfl, ?_⟩) hHeld ?_
 rotate_left
 ·(intro w hSw;(try dsimp only at hSw);go_simp;try with_reducible rfl)
 simp only [Act.put, List.getElem_toArray, List.getElem_cons_succ, List.getElem_cons_zero, List.setIfInBounds_toArray, List.set_cons_zero, List.set_cons_succ]
 refine wpAnyH_take (i := 1) (v := ?_) (by rfl) (by kernel_rfl) (by kernel_rfl) (by kernel_rfl) (by exact fun _ _ _ h => h) (Or.inl ⟨by rfl, ?_⟩) hHeld ?_
 rotate_left
 ·(intro w hSw;(try dsimp only at hSw);go_simp;try with_reducible rfl)
 simp only [Act.put, List.getElem_toArray, List.getElem_cons_succ, List.getElem_cons_zero, List.setIfInBounds_toArray, List.set_cons_zero, List.set_cons_succ]
 refine wpAnyH_take (i := 2) (v := ?_) (by rfl) (by kernel_rfl) (by kernel_rfl) (by kernel_rfl) (by exact fun _ _ _ h => h) (Or.inl ⟨by rfl, ?_⟩) hHeld ?_
 rotate_left
 ·(intro w hSw;(try dsimp only at hSw);go_simp;try with_reducible rfl)
 simp only [Act.put, List.getElem_toArray, List.getElem_cons_succ, List.getElem_cons_zero, List.setIfInBounds_toArray, List.set_cons_zero, List.set_cons_succ]
 refine wpAnyH_take (i := 3) (v := ?_) (by rfl) (by kernel_rfl) (by kernel_rfl) (by kernel_rfl) (by exact fun _ _ _ h => h) (Or.inl ⟨by rfl, ?_⟩) hHeld ?_
 rotate_left
 ·(intro w hSw;(try dsimp only at hSw);go_simp;try with_reducible rfl)
 simp only [Act.put, List.getElem_toArray, List.getElem_cons_succ, List.getElem_cons_zero, List.setIfInBounds_toArray, List.set_cons_zero, List.set_cons_succ]
 refine wpAnyH_take (i := 4) (v := ?_) (by rfl) (by kernel_rfl) (by kernel_rfl) (by kernel_rfl) (by exact fun _ _ _ h => h) (Or.inl ⟨by rfl, ?_⟩) hHeld ?_
 rotate_left
 ·(intro w hSw;(try dsimp only at hSw);go_simp;try with_reducible rfl)
 simp only [Act.put, List.getElem_toArray, List.getElem_cons_succ, List.getElem_cons_zero, List.setIfInBounds_toArray, List.set_cons_zero, List.set_cons_succ]
 refine wpAnyH_take (i := 5) (v := ?_) (by rfl) (by kernel_rfl) (by kernel_rfl) (by kernel_rfl) (by exact fun _ _ _ h => h) (Or.inl ⟨by rfl, ?_⟩) hHeld ?_
 rotate_left
 ·(intro w hSw;(try dsimp only at hSw);go_simp;try with_reducible rfl)
 simp only [Act.put, List.getElem_toArray, List.getElem_cons_succ, List.getElem_cons_zero, List.setIfInBounds_toArray, List.set_cons_zero, List.set_cons_succ]
 refine wpAnyH_take (i := 7) (v := ?_) (by rfl) (by kernel_rfl) (by kernel_rfl) (by kernel_rfl) (by exact fun _ _ _ h => h) (Or.inl ⟨by rfl, ?_⟩) hHeld ?_
 rotate_left
 ·(intro w hSw;(try dsimp only at hSw);go_simp;try with_reducible rfl)
 simp only [Act.put, List.getElem_toArray, List.getElem_cons_succ, List.getElem_cons_zero, List.setIfInBounds_toArray, List.set_cons_zero, List.set_cons_succ]
 refine wpAnyH_take (i := 8) (v := ?_) (by rfl) (by kernel_rfl) (by kernel_rfl) (by kernel_rfl) (by exact fun _ _ _ h => h) (Or.inl ⟨by rfl, ?_⟩) hHeld ?_
 rotate_left
 ·(intro w hSw;(try dsimp only at hSw);go_simp;try with_reducible rfl)
 simp only [Act.put, List.getElem_toArray, List.getElem_cons_succ, List.getElem_cons_zero, List.setIfInBounds_toArray, List.set_cons_zero, List.set_cons_succ]
 refine wpAnyH_take (i := 9) (v := ?_) (by rfl) (by kernel_rfl) (by kernel_rfl) (by kernel_rfl) (by exact fun _ _ _ h => h) (Or.inl ⟨by rfl, ?_⟩) hHeld ?_
 rotate_left
 ·(intro w hSw;(try dsimp only at hSw);go_simp;try with_reducible rfl)
 simp only [Act.put, List.getElem_toArray, List.getElem_cons_succ, List.getElem_cons_zero, List.setIfInBounds_toArray, List.set_cons_zero, List.set_cons_succ]
 refine wpAnyH_take (i := 10) (v := ?_) (by rfl) (by kernel_rfl) (by kernel_rfl) (by kernel_rfl) (by exact fun _ _ _ h => h) (Or.inl ⟨by rfl, ?_⟩) hHeld ?_
 rotate_left
 ·(intro w hSw;(try dsimp only at hSw);go_simp;try with_reducible rfl)
 simp only [Act.put, List.getElem_toArray, List.getElem_cons_succ, List.getElem_cons_zero, List.setIfInBounds_toArray, List.set_cons_zero, List.set_cons_succ]
 refine wpAnyH_ready (rs := [6]) (by kernel_rfl) (by simp) ?_
 refine AllReadyH.cons (by rfl) (fun K hK => ?_) AllReadyH.nil
 go_simp
 (with_reducible refine (length_D1 l (by omega) _).mono ?_);rintro e w2 ⟨rfl, hb2⟩;have hp2 := hp1.on hb2;have hi2 := hi1.on hb2;have hw2 := hw1.trans (hb2.mono hw1.size)
 refine hK.out _ _ ⟨hi2.cell 0, hi2.cell 1, hi2.cell 2, hi2.cell 3, hi2.cell 4, hi2.cell 5, hi2.cell 6, hi2.cell 7, hi2.cell 8, hi2.cell 9, hi2.cell 10, hi2.cell 11, hi2.cell 12, hp2.cell 6⟩ (fun hHeld => ?_)
 clear hK K
 try simp only [Act.put, List.getElem_toArray, List.getElem_cons_succ, List.getElem_cons_zero, List.setIfInBounds_toArray, List.set_cons_zero, List.set_cons_succ]
 refine wpAnyH_take (i := 11) (v := ?_) (by rfl) (by kernel_rfl) (by kernel_rfl) (by kernel_rfl) (by exact fun _ _ _ h => h) (Or.inl ⟨by rfl, ?_⟩) hHeld ?_
 rotate_left
 ·(intro w hSw;(try dsimp only at hSw);go_simp;try with_reducible rfl)
 simp only [Act.put, List.getElem_toArray, List.getElem_cons_succ, List.getElem_cons_zero, List.setIfInBounds_toArray, List.set_cons_zero, List.set_cons_succ]
 refine wpAnyH_take (i := 12) (v := ?_) (by rfl) (by kernel_rfl) (by kernel_rfl) (by kernel_rfl) (by exact fun _ _ _ h => h) (Or.inl ⟨by rfl, ?_⟩) hHeld ?_
 rotate_left
 ·(intro w hSw;(try dsimp only at hSw);go_simp;try with_reducible rfl)
 simp only [Act.put, List.getElem_toArray, List.getElem_cons_succ, List.getElem_cons_zero, List.setIfInBounds_toArray, List.set_cons_zero, List.set_cons_succ]
 try simp only [Act.put, List.getElem_toArray, List.getElem_cons_succ, List.getElem_cons_zero, List.setIfInBounds_toArray, List.set_cons_zero, List.set_cons_succ]
 refine wpAnyH_done (by kernel_rfl) ?_ _
 go_wp2
 go_ret
 exact ⟨rfl, hw2⟩
set_option maxRecDepth 100000 in
set_option maxHeartbeats 4000000 in
theorem formed_R {vout vin voff vdec vpings vbegan vorder vblock : Value} {all beg frames tab sts last of away bad : Int} {first ends closed : Bool} {p : Nat} {ty fl st pad code la inc dep wt xc xs : Int} {sole xi : Bool} {da : Bytes} {sa : Option Addr} {sn sc : Nat} (w : World) (h : Blk w p 97 #[vout, vin, .int .i64 all, .int .i64 beg, voff, vdec, .int .i64 16384, .int .i64 tab, .int .i64 sts, vpings, .int .i64 last, vbegan, vorder, .bool first, .int .i64 of, .bool ends, vblock, .int .i64 away, .bool closed, .int .i64 bad]) :
  Calls Tryz.prog 48 #[Ptr p, .agg #[.int .i64 3, .int .i64 0, .int .i64 st, S [], .int .i64 0, .slice sa 0 sc, .int .i64 code, .int .i64 la, .int .i64 inc, .int .i64 dep, .int .i64 wt, .bool sole, .bool false, .int .i64 xc, .int .i64 xs]] w fun e w' => e = .returned (.int .i64 0) ∧ Below w.heap.size w w' := by
 have y0 : w.cell? ⟨p, 0, none⟩ = some (vout) := h.cell 0
 have y1 : w.cell? ⟨p, 1, none⟩ = some (vin) := h.cell 1
 have y2 : w.cell? ⟨p, 2, none⟩ = some (.int .i64 all) := h.cell 2
 have y3 : w.cell? ⟨p, 3, none⟩ = some (.int .i64 beg) := h.cell 3
 have y4 : w.cell? ⟨p, 4, none⟩ = some (voff) := h.cell 4
 have y5 : w.cell? ⟨p, 5, none⟩ = some (vdec) := h.cell 5
 have y6 : w.cell? ⟨p, 6, none⟩ = some (.int .i64 16384) := h.cell 6
 have y7 : w.cell? ⟨p, 7, none⟩ = some (.int .i64 tab) := h.cell 7
 have y8 : w.cell? ⟨p, 8, none⟩ = some (.int .i64 sts) := h.cell 8
 have y9 : w.cell? ⟨p, 9, none⟩ = some (vpings) := h.cell 9
 have y10 : w.cell? ⟨p, 10, none⟩ = some (.int .i64 last) := h.cell 10
 have y11 : w.cell? ⟨p, 11, none⟩ = some (vbegan) := h.cell 11
 have y12 : w.cell? ⟨p, 12, none⟩ = some (vorder) := h.cell 12
 have y13 : w.cell? ⟨p, 13, none⟩ = some (.bool first) := h.cell 13
 have y14 : w.cell? ⟨p, 14, none⟩ = some (.int .i64 of) := h.cell 14
 have y15 : w.cell? ⟨p, 15, none⟩ = some (.bool ends) := h.cell 15
 have y16 : w.cell? ⟨p, 16, none⟩ = some (vblock) := h.cell 16
 have y17 : w.cell? ⟨p, 17, none⟩ = some (.int .i64 away) := h.cell 17
 have y18 : w.cell? ⟨p, 18, none⟩ = some (.bool closed) := h.cell 18
 have y19 : w.cell? ⟨p, 19, none⟩ = some (.int .i64 bad) := h.cell 19
 have hlt := h.lt
 have hp1 := (h.alloc (.cells #[.int .i64 3, .int .i64 0, .int .i64 st, S [], .int .i64 0, .slice sa 0 sc, .int .i64 code, .int .i64 la, .int .i64 inc, .int .i64 dep, .int .i64 wt, .bool sole, .bool false, .int .i64 xc, .int .i64 xs] 74)).drew
 have hi1 := (Blk.new w 74 #[.int .i64 3, .int .i64 0, .int .i64 st, S [], .int .i64 0, .slice sa 0 sc, .int .i64 code, .int .i64 la, .int .i64 inc, .int .i64 dep, .int .i64 wt, .bool sole, .bool false, .int .i64 xc, .int .i64 xs]).drew
 have hw1 := ((Below.refl w.heap.size w).alloc (Nat.le_refl _) (.cells #[.int .i64 3, .int .i64 0, .int .i64 st, S [], .int .i64 0, .slice sa 0 sc, .int .i64 code, .int .i64 la, .int .i64 inc, .int .i64 dep, .int .i64 wt, .bool sole, .bool false, .int .i64 xc, .int .i64 xs] 74)).drew
 go_enter Tryz.func48, Tryz.ntmps48
 go_upto_region 1 with fail
 refine wp_region_held_drew (S := (fun wx => wx.cell? ⟨w.heap.size, 0, none⟩ = some (.int .i64 3) ∧ wx.cell? ⟨w.heap.size, 1, none⟩ = some (.int .i64 0) ∧ wx.cell? ⟨w.heap.size, 2, none⟩ = some (.int .i64 st) ∧ wx.cell? ⟨w.heap.size, 3, none⟩ = some (S []) ∧ wx.cell? ⟨w.heap.size, 4, none⟩ = some (.int .i64 0) ∧ wx.cell? ⟨w.heap.size, 5, none⟩ = some (.slice sa 0 sc) ∧ wx.cell? ⟨w.heap.size, 6, none⟩ = some (.int .i64 code) ∧ wx.cell? ⟨w.heap.size, 7, none⟩ = some (.int .i64 la) ∧ wx.cell? ⟨w.heap.size, 8, none⟩ = some (.int .i64 inc) ∧ wx.cell? ⟨w.heap.size, 9, none⟩ = some (.int .i64 dep) ∧ wx.cell? ⟨w.heap.size, 10, none⟩ = some (.int .i64 wt) ∧ wx.cell? ⟨w.heap.size, 11, none⟩ = some (.bool sole) ∧ wx.cell? ⟨w.heap.size, 12, none⟩ = some (.bool false) ∧ wx.cell? ⟨p, 6, none⟩ = some (.int .i64 16384))) (by kernel_rfl) ⟨hi1.cell 0, hi1.cell 1, hi1.cell 2, hi1.cell 3, hi1.cell 4, hi1.cell 5, hi1.cell 6, hi1.cell 7, hi1.cell 8, hi1.cell 9, hi1.cell 10, hi1.cell 11, hi1.cell 12, hp1.cell 6⟩ (fun hHeld => ?_)
 refine wpAnyH_take (i := 0) (v := ?_) (by rfl) (by kernel_rfl) (by kernel_rfl) (by kernel_rfl) (by exact fun _ _ _ h => h) (Or.inl ⟨by rfl, ?_⟩) hHeld ?_
 rotate_left
 ·(intro w hSw;(try dsimp only at hSw);go_simp;try with_reducible rfl)
 simp only [Act.put, List.getElem_toArray, List.getElem_cons_succ, List.getElem_cons_zero, List.setIfInBounds_toArray, List.set_cons_zero, List.set_cons_succ]
 refine wpAnyH_take (i := 1) (v := ?_) (by rfl) (by kernel_rfl) (by kernel_rfl) (by kernel_rfl) (by exact fun _ _ _ h => h) (Or.inl ⟨by rfl, ?_⟩) hHeld ?_
 rotate_left
 ·(intro w hSw;(try dsimp only at hSw);go_simp;try with_reducible rfl)
 simp only [Act.put, List.getElem_toArray, List.getElem_cons_succ, List.getElem_cons_zero, List.setIfInBounds_toArray, List.set_cons_zero, List.set_cons_succ]
 refine wpAnyH_take (i := 2) (v := ?_) (by rfl) (by kernel_rfl) (by kernel_rfl) (by kernel_rfl) (by exact fun _ _ _ h => h) (Or.inl ⟨by rfl, ?_⟩) hHeld ?_
 rotate_left
 ·(intro w hSw;(try dsimp only at hSw);go_simp;try with_reducible rfl)
 simp only [Act.put, List.getElem_toArray, List.getElem_cons_succ, List.getElem_cons_zero, List.setIfInBounds_toArray, List.set_cons_zero, List.set_cons_succ]
 refine wpAnyH_take (i := 3) (v := ?_) (by rfl) (by kernel_rfl) (by kernel_rfl) (by kernel_rfl) (by exact fun _ _ _ h => h) (Or.inl ⟨by rfl, ?_⟩) hHeld ?_
 rotate_left
 ·(intro w hSw;(try dsimp only at hSw);go_simp;try with_reducible rfl)
 simp only [Act.put, List.getElem_toArray, List.getElem_cons_succ, List.getElem_cons_zero, List.setIfInBounds_toArray, List.set_cons_zero, List.set_cons_succ]
 refine wpAnyH_take (i := 4) (v := ?_) (by rfl) (by kernel_rfl) (by kernel_rfl) (by kernel_rfl) (by exact fun _ _ _ h => h) (Or.inl ⟨by rfl, ?_⟩) hHeld ?_
 rotate_left
 ·(intro w hSw;(try dsimp only at hSw);go_simp;try with_reducible rfl)
 simp only [Act.put, List.getElem_toArray, List.getElem_cons_succ, List.getElem_cons_zero, List.setIfInBounds_toArray, List.set_cons_zero, List.set_cons_succ]
 refine wpAnyH_take (i := 5) (v := ?_) (by rfl) (by kernel_rfl) (by kernel_rfl) (by kernel_rfl) (by exact fun _ _ _ h => h) (Or.inl ⟨by rfl, ?_⟩) hHeld ?_
 rotate_left
 ·(intro w hSw;(try dsimp only at hSw);go_simp;try with_reducible rfl)
 simp only [Act.put, List.getElem_toArray, List.getElem_cons_succ, List.getElem_cons_zero, List.setIfInBounds_toArray, List.set_cons_zero, List.set_cons_succ]
 refine wpAnyH_take (i := 7) (v := ?_) (by rfl) (by kernel_rfl) (by kernel_rfl) (by kernel_rfl) (by exact fun _ _ _ h => h) (Or.inl ⟨by rfl, ?_⟩) hHeld ?_
 rotate_left
 ·(intro w hSw;(try dsimp only at hSw);go_simp;try with_reducible rfl)
 simp only [Act.put, List.getElem_toArray, List.getElem_cons_succ, List.getElem_cons_zero, List.setIfInBounds_toArray, List.set_cons_zero, List.set_cons_succ]
 refine wpAnyH_take (i := 8) (v := ?_) (by rfl) (by kernel_rfl) (by kernel_rfl) (by kernel_rfl) (by exact fun _ _ _ h => h) (Or.inl ⟨by rfl, ?_⟩) hHeld ?_
 rotate_left
 ·(intro w hSw;(try dsimp only at hSw);go_simp;try with_reducible rfl)
 simp only [Act.put, List.getElem_toArray, List.getElem_cons_succ, List.getElem_cons_zero, List.setIfInBounds_toArray, List.set_cons_zero, List.set_cons_succ]
 refine wpAnyH_take (i := 9) (v := ?_) (by rfl) (by kernel_rfl) (by kernel_rfl) (by kernel_rfl) (by exact fun _ _ _ h => h) (Or.inl ⟨by rfl, ?_⟩) hHeld ?_
 rotate_left
 ·(intro w hSw;(try dsimp only at hSw);go_simp;try with_reducible rfl)
 simp only [Act.put, List.getElem_toArray, List.getElem_cons_succ, List.getElem_cons_zero, List.setIfInBounds_toArray, List.set_cons_zero, List.set_cons_succ]
 refine wpAnyH_take (i := 10) (v := ?_) (by rfl) (by kernel_rfl) (by kernel_rfl) (by kernel_rfl) (by exact fun _ _ _ h => h) (Or.inl ⟨by rfl, ?_⟩) hHeld ?_
 rotate_left
 ·(intro w hSw;(try dsimp only at hSw);go_simp;try with_reducible rfl)
 simp only [Act.put, List.getElem_toArray, List.getElem_cons_succ, List.getElem_cons_zero, List.setIfInBounds_toArray, List.set_cons_zero, List.set_cons_succ]
 refine wpAnyH_ready (rs := [6]) (by kernel_rfl) (by simp) ?_
 refine AllReadyH.cons (by rfl) (fun K hK => ?_) AllReadyH.nil
 go_simp
 (with_reducible refine (length_R _).mono ?_);rintro e w2 ⟨rfl, hb2⟩;have hp2 := hp1.on hb2;have hi2 := hi1.on hb2;have hw2 := hw1.trans (hb2.mono hw1.size)
 refine hK.out _ _ ⟨hi2.cell 0, hi2.cell 1, hi2.cell 2, hi2.cell 3, hi2.cell 4, hi2.cell 5, hi2.cell 6, hi2.cell 7, hi2.cell 8, hi2.cell 9, hi2.cell 10, hi2.cell 11, hi2.cell 12, hp2.cell 6⟩ (fun hHeld => ?_)
 clear hK K
 try simp only [Act.put, List.getElem_toArray, List.getElem_cons_succ, List.getElem_cons_zero, List.setIfInBounds_toArray, List.set_cons_zero, List.set_cons_succ]
 refine wpAnyH_take (i := 11) (v := ?_) (by rfl) (by kernel_rfl) (by kernel_rfl) (by kernel_rfl) (by exact fun _ _ _ h => h) (Or.inl ⟨by rfl, ?_⟩) hHeld ?_
 rotate_left
 ·(intro w hSw;(try dsimp only at hSw);go_simp;try with_reducible rfl)
 simp only [Act.put, List.getElem_toArray, List.getElem_cons_succ, List.getElem_cons_zero, List.setIfInBounds_toArray, List.set_cons_zero, List.set_cons_succ]
 refine wpAnyH_take (i := 12) (v := ?_) (by rfl) (by kernel_rfl) (by kernel_rfl) (by kernel_rfl) (by exact fun _ _ _ h => h) (Or.inl ⟨by rfl, ?_⟩) hHeld ?_
 rotate_left
 ·(intro w hSw;(try dsimp only at hSw);go_simp;try with_reducible rfl)
 simp only [Act.put, List.getElem_toArray, List.getElem_cons_succ, List.getElem_cons_zero, List.setIfInBounds_toArray, List.set_cons_zero, List.set_cons_succ]
 try simp only [Act.put, List.getElem_toArray, List.getElem_cons_succ, List.getElem_cons_zero, List.setIfInBounds_toArray, List.set_cons_zero, List.set_cons_succ]
 refine wpAnyH_done (by kernel_rfl) ?_ _
 go_wp2
 go_ret
 exact ⟨rfl, hw2⟩
set_option maxRecDepth 100000 in
set_option maxHeartbeats 4000000 in
theorem formed_G {vout vin voff vdec vpings vbegan vorder vblock : Value} {all beg frames tab sts last of away bad : Int} {first ends closed : Bool} {p : Nat} {ty fl st pad code la inc dep wt xc xs : Int} {sole xi : Bool} {da : Bytes} {sa : Option Addr} {sn sc : Nat} (w : World) (h : Blk w p 97 #[vout, vin, .int .i64 all, .int .i64 beg, voff, vdec, .int .i64 16384, .int .i64 tab, .int .i64 sts, vpings, .int .i64 last, vbegan, vorder, .bool first, .int .i64 of, .bool ends, vblock, .int .i64 away, .bool closed, .int .i64 bad]) :
  Calls Tryz.prog 48 #[Ptr p, .agg #[.int .i64 7, .int .i64 0, .int .i64 st, S [], .int .i64 0, .slice sa 0 sc, .int .i64 code, .int .i64 la, .int .i64 inc, .int .i64 dep, .int .i64 wt, .bool sole, .bool false, .int .i64 xc, .int .i64 xs]] w fun e w' => e = .returned (.int .i64 0) ∧ Below w.heap.size w w' := by
 have y0 : w.cell? ⟨p, 0, none⟩ = some (vout) := h.cell 0
 have y1 : w.cell? ⟨p, 1, none⟩ = some (vin) := h.cell 1
 have y2 : w.cell? ⟨p, 2, none⟩ = some (.int .i64 all) := h.cell 2
 have y3 : w.cell? ⟨p, 3, none⟩ = some (.int .i64 beg) := h.cell 3
 have y4 : w.cell? ⟨p, 4, none⟩ = some (voff) := h.cell 4
 have y5 : w.cell? ⟨p, 5, none⟩ = some (vdec) := h.cell 5
 have y6 : w.cell? ⟨p, 6, none⟩ = some (.int .i64 16384) := h.cell 6
 have y7 : w.cell? ⟨p, 7, none⟩ = some (.int .i64 tab) := h.cell 7
 have y8 : w.cell? ⟨p, 8, none⟩ = some (.int .i64 sts) := h.cell 8
 have y9 : w.cell? ⟨p, 9, none⟩ = some (vpings) := h.cell 9
 have y10 : w.cell? ⟨p, 10, none⟩ = some (.int .i64 last) := h.cell 10
 have y11 : w.cell? ⟨p, 11, none⟩ = some (vbegan) := h.cell 11
 have y12 : w.cell? ⟨p, 12, none⟩ = some (vorder) := h.cell 12
 have y13 : w.cell? ⟨p, 13, none⟩ = some (.bool first) := h.cell 13
 have y14 : w.cell? ⟨p, 14, none⟩ = some (.int .i64 of) := h.cell 14
 have y15 : w.cell? ⟨p, 15, none⟩ = some (.bool ends) := h.cell 15
 have y16 : w.cell? ⟨p, 16, none⟩ = some (vblock) := h.cell 16
 have y17 : w.cell? ⟨p, 17, none⟩ = some (.int .i64 away) := h.cell 17
 have y18 : w.cell? ⟨p, 18, none⟩ = some (.bool closed) := h.cell 18
 have y19 : w.cell? ⟨p, 19, none⟩ = some (.int .i64 bad) := h.cell 19
 have hlt := h.lt
 have hp1 := (h.alloc (.cells #[.int .i64 7, .int .i64 0, .int .i64 st, S [], .int .i64 0, .slice sa 0 sc, .int .i64 code, .int .i64 la, .int .i64 inc, .int .i64 dep, .int .i64 wt, .bool sole, .bool false, .int .i64 xc, .int .i64 xs] 74)).drew
 have hi1 := (Blk.new w 74 #[.int .i64 7, .int .i64 0, .int .i64 st, S [], .int .i64 0, .slice sa 0 sc, .int .i64 code, .int .i64 la, .int .i64 inc, .int .i64 dep, .int .i64 wt, .bool sole, .bool false, .int .i64 xc, .int .i64 xs]).drew
 have hw1 := ((Below.refl w.heap.size w).alloc (Nat.le_refl _) (.cells #[.int .i64 7, .int .i64 0, .int .i64 st, S [], .int .i64 0, .slice sa 0 sc, .int .i64 code, .int .i64 la, .int .i64 inc, .int .i64 dep, .int .i64 wt, .bool sole, .bool false, .int .i64 xc, .int .i64 xs] 74)).drew
 go_enter Tryz.func48, Tryz.ntmps48
 go_upto_region 1 with fail
 refine wp_region_held_drew (S := (fun wx => wx.cell? ⟨w.heap.size, 0, none⟩ = some (.int .i64 7) ∧ wx.cell? ⟨w.heap.size, 1, none⟩ = some (.int .i64 0) ∧ wx.cell? ⟨w.heap.size, 2, none⟩ = some (.int .i64 st) ∧ wx.cell? ⟨w.heap.size, 3, none⟩ = some (S []) ∧ wx.cell? ⟨w.heap.size, 4, none⟩ = some (.int .i64 0) ∧ wx.cell? ⟨w.heap.size, 5, none⟩ = some (.slice sa 0 sc) ∧ wx.cell? ⟨w.heap.size, 6, none⟩ = some (.int .i64 code) ∧ wx.cell? ⟨w.heap.size, 7, none⟩ = some (.int .i64 la) ∧ wx.cell? ⟨w.heap.size, 8, none⟩ = some (.int .i64 inc) ∧ wx.cell? ⟨w.heap.size, 9, none⟩ = some (.int .i64 dep) ∧ wx.cell? ⟨w.heap.size, 10, none⟩ = some (.int .i64 wt) ∧ wx.cell? ⟨w.heap.size, 11, none⟩ = some (.bool sole) ∧ wx.cell? ⟨w.heap.size, 12, none⟩ = some (.bool false) ∧ wx.cell? ⟨p, 6, none⟩ = some (.int .i64 16384))) (by kernel_rfl) ⟨hi1.cell 0, hi1.cell 1, hi1.cell 2, hi1.cell 3, hi1.cell 4, hi1.cell 5, hi1.cell 6, hi1.cell 7, hi1.cell 8, hi1.cell 9, hi1.cell 10, hi1.cell 11, hi1.cell 12, hp1.cell 6⟩ (fun hHeld => ?_)
 refine wpAnyH_take (i := 0) (v := ?_) (by rfl) (by kernel_rfl) (by kernel_rfl) (by kernel_rfl) (by exact fun _ _ _ h => h) (Or.inl ⟨by rfl, ?_⟩) hHeld ?_
 rotate_left
 ·(intro w hSw;(try dsimp only at hSw);go_simp;try with_reducible rfl)
 simp only [Act.put, List.getElem_toArray, List.getElem_cons_succ, List.getElem_cons_zero, List.setIfInBounds_toArray, List.set_cons_zero, List.set_cons_succ]
 refine wpAnyH_take (i := 1) (v := ?_) (by rfl) (by kernel_rfl) (by kernel_rfl) (by kernel_rfl) (by exact fun _ _ _ h => h) (Or.inl ⟨by rfl, ?_⟩) hHeld ?_
 rotate_left
 ·(intro w hSw;(try dsimp only at hSw);go_simp;try with_reducible rfl)
 simp only [Act.put, List.getElem_toArray, List.getElem_cons_succ, List.getElem_cons_zero, List.setIfInBounds_toArray, List.set_cons_zero, List.set_cons_succ]
 refine wpAnyH_take (i := 2) (v := ?_) (by rfl) (by kernel_rfl) (by kernel_rfl) (by kernel_rfl) (by exact fun _ _ _ h => h) (Or.inl ⟨by rfl, ?_⟩) hHeld ?_
 rotate_left
 ·(intro w hSw;(try dsimp only at hSw);go_simp;try with_reducible rfl)
 simp only [Act.put, List.getElem_toArray, List.getElem_cons_succ, List.getElem_cons_zero, List.setIfInBounds_toArray, List.set_cons_zero, List.set_cons_succ]
 refine wpAnyH_take (i := 3) (v := ?_) (by rfl) (by kernel_rfl) (by kernel_rfl) (by kernel_rfl) (by exact fun _ _ _ h => h) (Or.inl ⟨by rfl, ?_⟩) hHeld ?_
 rotate_left
 ·(intro w hSw;(try dsimp only at hSw);go_simp;try with_reducible rfl)
 simp only [Act.put, List.getElem_toArray, List.getElem_cons_succ, List.getElem_cons_zero, List.setIfInBounds_toArray, List.set_cons_zero, List.set_cons_succ]
 refine wpAnyH_take (i := 4) (v := ?_) (by rfl) (by kernel_rfl) (by kernel_rfl) (by kernel_rfl) (by exact fun _ _ _ h => h) (Or.inl ⟨by rfl, ?_⟩) hHeld ?_
 rotate_left
 ·(intro w hSw;(try dsimp only at hSw);go_simp;try with_reducible rfl)
 simp only [Act.put, List.getElem_toArray, List.getElem_cons_succ, List.getElem_cons_zero, List.setIfInBounds_toArray, List.set_cons_zero, List.set_cons_succ]
 refine wpAnyH_take (i := 5) (v := ?_) (by rfl) (by kernel_rfl) (by kernel_rfl) (by kernel_rfl) (by exact fun _ _ _ h => h) (Or.inl ⟨by rfl, ?_⟩) hHeld ?_
 rotate_left
 ·(intro w hSw;(try dsimp only at hSw);go_simp;try with_reducible rfl)
 simp only [Act.put, List.getElem_toArray, List.getElem_cons_succ, List.getElem_cons_zero, List.setIfInBounds_toArray, List.set_cons_zero, List.set_cons_succ]
 refine wpAnyH_take (i := 7) (v := ?_) (by rfl) (by kernel_rfl) (by kernel_rfl) (by kernel_rfl) (by exact fun _ _ _ h => h) (Or.inl ⟨by rfl, ?_⟩) hHeld ?_
 rotate_left
 ·(intro w hSw;(try dsimp only at hSw);go_simp;try with_reducible rfl)
 simp only [Act.put, List.getElem_toArray, List.getElem_cons_succ, List.getElem_cons_zero, List.setIfInBounds_toArray, List.set_cons_zero, List.set_cons_succ]
 refine wpAnyH_take (i := 8) (v := ?_) (by rfl) (by kernel_rfl) (by kernel_rfl) (by kernel_rfl) (by exact fun _ _ _ h => h) (Or.inl ⟨by rfl, ?_⟩) hHeld ?_
 rotate_left
 ·(intro w hSw;(try dsimp only at hSw);go_simp;try with_reducible rfl)
 simp only [Act.put, List.getElem_toArray, List.getElem_cons_succ, List.getElem_cons_zero, List.setIfInBounds_toArray, List.set_cons_zero, List.set_cons_succ]
 refine wpAnyH_take (i := 9) (v := ?_) (by rfl) (by kernel_rfl) (by kernel_rfl) (by kernel_rfl) (by exact fun _ _ _ h => h) (Or.inl ⟨by rfl, ?_⟩) hHeld ?_
 rotate_left
 ·(intro w hSw;(try dsimp only at hSw);go_simp;try with_reducible rfl)
 simp only [Act.put, List.getElem_toArray, List.getElem_cons_succ, List.getElem_cons_zero, List.setIfInBounds_toArray, List.set_cons_zero, List.set_cons_succ]
 refine wpAnyH_take (i := 10) (v := ?_) (by rfl) (by kernel_rfl) (by kernel_rfl) (by kernel_rfl) (by exact fun _ _ _ h => h) (Or.inl ⟨by rfl, ?_⟩) hHeld ?_
 rotate_left
 ·(intro w hSw;(try dsimp only at hSw);go_simp;try with_reducible rfl)
 simp only [Act.put, List.getElem_toArray, List.getElem_cons_succ, List.getElem_cons_zero, List.setIfInBounds_toArray, List.set_cons_zero, List.set_cons_succ]
 refine wpAnyH_ready (rs := [6]) (by kernel_rfl) (by simp) ?_
 refine AllReadyH.cons (by rfl) (fun K hK => ?_) AllReadyH.nil
 go_simp
 (with_reducible refine (length_G _).mono ?_);rintro e w2 ⟨rfl, hb2⟩;have hp2 := hp1.on hb2;have hi2 := hi1.on hb2;have hw2 := hw1.trans (hb2.mono hw1.size)
 refine hK.out _ _ ⟨hi2.cell 0, hi2.cell 1, hi2.cell 2, hi2.cell 3, hi2.cell 4, hi2.cell 5, hi2.cell 6, hi2.cell 7, hi2.cell 8, hi2.cell 9, hi2.cell 10, hi2.cell 11, hi2.cell 12, hp2.cell 6⟩ (fun hHeld => ?_)
 clear hK K
 try simp only [Act.put, List.getElem_toArray, List.getElem_cons_succ, List.getElem_cons_zero, List.setIfInBounds_toArray, List.set_cons_zero, List.set_cons_succ]
 refine wpAnyH_take (i := 11) (v := ?_) (by rfl) (by kernel_rfl) (by kernel_rfl) (by kernel_rfl) (by exact fun _ _ _ h => h) (Or.inl ⟨by rfl, ?_⟩) hHeld ?_
 rotate_left
 ·(intro w hSw;(try dsimp only at hSw);go_simp;try with_reducible rfl)
 simp only [Act.put, List.getElem_toArray, List.getElem_cons_succ, List.getElem_cons_zero, List.setIfInBounds_toArray, List.set_cons_zero, List.set_cons_succ]
 refine wpAnyH_take (i := 12) (v := ?_) (by rfl) (by kernel_rfl) (by kernel_rfl) (by kernel_rfl) (by exact fun _ _ _ h => h) (Or.inl ⟨by rfl, ?_⟩) hHeld ?_
 rotate_left
 ·(intro w hSw;(try dsimp only at hSw);go_simp;try with_reducible rfl)
 simp only [Act.put, List.getElem_toArray, List.getElem_cons_succ, List.getElem_cons_zero, List.setIfInBounds_toArray, List.set_cons_zero, List.set_cons_succ]
 try simp only [Act.put, List.getElem_toArray, List.getElem_cons_succ, List.getElem_cons_zero, List.setIfInBounds_toArray, List.set_cons_zero, List.set_cons_succ]
 refine wpAnyH_done (by kernel_rfl) ?_ _
 go_wp2
 go_ret
 exact ⟨rfl, hw2⟩
set_option maxRecDepth 100000 in
set_option maxHeartbeats 4000000 in
theorem formed_L {vout vin voff vdec vpings vbegan vorder vblock : Value} {all beg frames tab sts last of away bad : Int} {first ends closed : Bool} {p : Nat} {ty fl st pad code la inc dep wt xc xs : Int} {sole xi : Bool} {da : Bytes} {sa : Option Addr} {sn sc : Nat} (l : Bytes) (hl : l.length ≤ 1048576) (hll : 16384 < l.length) (w : World) (h : Blk w p 97 #[vout, vin, .int .i64 all, .int .i64 beg, voff, vdec, .int .i64 16384, .int .i64 tab, .int .i64 sts, vpings, .int .i64 last, vbegan, vorder, .bool first, .int .i64 of, .bool ends, vblock, .int .i64 away, .bool closed, .int .i64 bad]) :
  Calls Tryz.prog 48 #[Ptr p, .agg #[.int .i64 0, .int .i64 0, .int .i64 st, S l, .int .i64 0, .slice sa 0 sc, .int .i64 code, .int .i64 la, .int .i64 inc, .int .i64 dep, .int .i64 wt, .bool sole, .bool false, .int .i64 xc, .int .i64 xs]] w fun e w' => e = .returned (.int .i64 240) ∧ Below w.heap.size w w' := by
 have y0 : w.cell? ⟨p, 0, none⟩ = some (vout) := h.cell 0
 have y1 : w.cell? ⟨p, 1, none⟩ = some (vin) := h.cell 1
 have y2 : w.cell? ⟨p, 2, none⟩ = some (.int .i64 all) := h.cell 2
 have y3 : w.cell? ⟨p, 3, none⟩ = some (.int .i64 beg) := h.cell 3
 have y4 : w.cell? ⟨p, 4, none⟩ = some (voff) := h.cell 4
 have y5 : w.cell? ⟨p, 5, none⟩ = some (vdec) := h.cell 5
 have y6 : w.cell? ⟨p, 6, none⟩ = some (.int .i64 16384) := h.cell 6
 have y7 : w.cell? ⟨p, 7, none⟩ = some (.int .i64 tab) := h.cell 7
 have y8 : w.cell? ⟨p, 8, none⟩ = some (.int .i64 sts) := h.cell 8
 have y9 : w.cell? ⟨p, 9, none⟩ = some (vpings) := h.cell 9
 have y10 : w.cell? ⟨p, 10, none⟩ = some (.int .i64 last) := h.cell 10
 have y11 : w.cell? ⟨p, 11, none⟩ = some (vbegan) := h.cell 11
 have y12 : w.cell? ⟨p, 12, none⟩ = some (vorder) := h.cell 12
 have y13 : w.cell? ⟨p, 13, none⟩ = some (.bool first) := h.cell 13
 have y14 : w.cell? ⟨p, 14, none⟩ = some (.int .i64 of) := h.cell 14
 have y15 : w.cell? ⟨p, 15, none⟩ = some (.bool ends) := h.cell 15
 have y16 : w.cell? ⟨p, 16, none⟩ = some (vblock) := h.cell 16
 have y17 : w.cell? ⟨p, 17, none⟩ = some (.int .i64 away) := h.cell 17
 have y18 : w.cell? ⟨p, 18, none⟩ = some (.bool closed) := h.cell 18
 have y19 : w.cell? ⟨p, 19, none⟩ = some (.int .i64 bad) := h.cell 19
 have hlt := h.lt
 have hq : (16384 : Int) < (l.length : Int) := by omega
 have hp1 := (h.alloc (.cells #[.int .i64 0, .int .i64 0, .int .i64 st, S l, .int .i64 0, .slice sa 0 sc, .int .i64 code, .int .i64 la, .int .i64 inc, .int .i64 dep, .int .i64 wt, .bool sole, .bool false, .int .i64 xc, .int .i64 xs] 74)).drew
 have hi1 := (Blk.new w 74 #[.int .i64 0, .int .i64 0, .int .i64 st, S l, .int .i64 0, .slice sa 0 sc, .int .i64 code, .int .i64 la, .int .i64 inc, .int .i64 dep, .int .i64 wt, .bool sole, .bool false, .int .i64 xc, .int .i64 xs]).drew
 have hw1 := ((Below.refl w.heap.size w).alloc (Nat.le_refl _) (.cells #[.int .i64 0, .int .i64 0, .int .i64 st, S l, .int .i64 0, .slice sa 0 sc, .int .i64 code, .int .i64 la, .int .i64 inc, .int .i64 dep, .int .i64 wt, .bool sole, .bool false, .int .i64 xc, .int .i64 xs] 74)).drew
 go_enter Tryz.func48, Tryz.ntmps48
 go_upto_region 1 with fail
 refine wp_region_held_drew (S := (fun wx => wx.cell? ⟨w.heap.size, 0, none⟩ = some (.int .i64 0) ∧ wx.cell? ⟨w.heap.size, 1, none⟩ = some (.int .i64 0) ∧ wx.cell? ⟨w.heap.size, 2, none⟩ = some (.int .i64 st) ∧ wx.cell? ⟨w.heap.size, 3, none⟩ = some (S l) ∧ wx.cell? ⟨w.heap.size, 4, none⟩ = some (.int .i64 0) ∧ wx.cell? ⟨w.heap.size, 5, none⟩ = some (.slice sa 0 sc) ∧ wx.cell? ⟨w.heap.size, 6, none⟩ = some (.int .i64 code) ∧ wx.cell? ⟨w.heap.size, 7, none⟩ = some (.int .i64 la) ∧ wx.cell? ⟨w.heap.size, 8, none⟩ = some (.int .i64 inc) ∧ wx.cell? ⟨w.heap.size, 9, none⟩ = some (.int .i64 dep) ∧ wx.cell? ⟨w.heap.size, 10, none⟩ = some (.int .i64 wt) ∧ wx.cell? ⟨w.heap.size, 11, none⟩ = some (.bool sole) ∧ wx.cell? ⟨w.heap.size, 12, none⟩ = some (.bool false) ∧ wx.cell? ⟨p, 6, none⟩ = some (.int .i64 16384))) (by kernel_rfl) ⟨hi1.cell 0, hi1.cell 1, hi1.cell 2, hi1.cell 3, hi1.cell 4, hi1.cell 5, hi1.cell 6, hi1.cell 7, hi1.cell 8, hi1.cell 9, hi1.cell 10, hi1.cell 11, hi1.cell 12, hp1.cell 6⟩ (fun hHeld => ?_)
 refine wpAnyH_take (i := 0) (v := ?_) (by rfl) (by kernel_rfl) (by kernel_rfl) (by kernel_rfl) (by exact fun _ _ _ h => h) (Or.inl ⟨by rfl, ?_⟩) hHeld ?_
 rotate_left
 ·(intro w hSw;(try dsimp only at hSw);go_simp;try with_reducible rfl)
 simp only [Act.put, List.getElem_toArray, List.getElem_cons_succ, List.getElem_cons_zero, List.setIfInBounds_toArray, List.set_cons_zero, List.set_cons_succ]
 refine wpAnyH_take (i := 1) (v := ?_) (by rfl) (by kernel_rfl) (by kernel_rfl) (by kernel_rfl) (by exact fun _ _ _ h => h) (Or.inl ⟨by rfl, ?_⟩) hHeld ?_
 rotate_left
 ·(intro w hSw;(try dsimp only at hSw);go_simp;try with_reducible rfl)
 simp only [Act.put, List.getElem_toArray, List.getElem_cons_succ, List.getElem_cons_zero, List.setIfInBounds_toArray, List.set_cons_zero, List.set_cons_succ]
 refine wpAnyH_take (i := 2) (v := ?_) (by rfl) (by kernel_rfl) (by kernel_rfl) (by kernel_rfl) (by exact fun _ _ _ h => h) (Or.inl ⟨by rfl, ?_⟩) hHeld ?_
 rotate_left
 ·(intro w hSw;(try dsimp only at hSw);go_simp;try with_reducible rfl)
 simp only [Act.put, List.getElem_toArray, List.getElem_cons_succ, List.getElem_cons_zero, List.setIfInBounds_toArray, List.set_cons_zero, List.set_cons_succ]
 refine wpAnyH_take (i := 3) (v := ?_) (by rfl) (by kernel_rfl) (by kernel_rfl) (by kernel_rfl) (by exact fun _ _ _ h => h) (Or.inl ⟨by rfl, ?_⟩) hHeld ?_
 rotate_left
 ·(intro w hSw;(try dsimp only at hSw);go_simp;try with_reducible rfl)
 simp only [Act.put, List.getElem_toArray, List.getElem_cons_succ, List.getElem_cons_zero, List.setIfInBounds_toArray, List.set_cons_zero, List.set_cons_succ]
 refine wpAnyH_take (i := 4) (v := ?_) (by rfl) (by kernel_rfl) (by kernel_rfl) (by kernel_rfl) (by exact fun _ _ _ h => h) (Or.inl ⟨by rfl, ?_⟩) hHeld ?_
 rotate_left
 ·(intro w hSw;(try dsimp only at hSw);go_simp;try with_reducible rfl)
 simp only [Act.put, List.getElem_toArray, List.getElem_cons_succ, List.getElem_cons_zero, List.setIfInBounds_toArray, List.set_cons_zero, List.set_cons_succ]
 refine wpAnyH_take (i := 5) (v := ?_) (by rfl) (by kernel_rfl) (by kernel_rfl) (by kernel_rfl) (by exact fun _ _ _ h => h) (Or.inl ⟨by rfl, ?_⟩) hHeld ?_
 rotate_left
 ·(intro w hSw;(try dsimp only at hSw);go_simp;try with_reducible rfl)
 simp only [Act.put, List.getElem_toArray, List.getElem_cons_succ, List.getElem_cons_zero, List.setIfInBounds_toArray, List.set_cons_zero, List.set_cons_succ]
 refine wpAnyH_take (i := 7) (v := ?_) (by rfl) (by kernel_rfl) (by kernel_rfl) (by kernel_rfl) (by exact fun _ _ _ h => h) (Or.inl ⟨by rfl, ?_⟩) hHeld ?_
 rotate_left
 ·(intro w hSw;(try dsimp only at hSw);go_simp;try with_reducible rfl)
 simp only [Act.put, List.getElem_toArray, List.getElem_cons_succ, List.getElem_cons_zero, List.setIfInBounds_toArray, List.set_cons_zero, List.set_cons_succ]
 refine wpAnyH_take (i := 8) (v := ?_) (by rfl) (by kernel_rfl) (by kernel_rfl) (by kernel_rfl) (by exact fun _ _ _ h => h) (Or.inl ⟨by rfl, ?_⟩) hHeld ?_
 rotate_left
 ·(intro w hSw;(try dsimp only at hSw);go_simp;try with_reducible rfl)
 simp only [Act.put, List.getElem_toArray, List.getElem_cons_succ, List.getElem_cons_zero, List.setIfInBounds_toArray, List.set_cons_zero, List.set_cons_succ]
 refine wpAnyH_take (i := 9) (v := ?_) (by rfl) (by kernel_rfl) (by kernel_rfl) (by kernel_rfl) (by exact fun _ _ _ h => h) (Or.inl ⟨by rfl, ?_⟩) hHeld ?_
 rotate_left
 ·(intro w hSw;(try dsimp only at hSw);go_simp;try with_reducible rfl)
 simp only [Act.put, List.getElem_toArray, List.getElem_cons_succ, List.getElem_cons_zero, List.setIfInBounds_toArray, List.set_cons_zero, List.set_cons_succ]
 refine wpAnyH_take (i := 10) (v := ?_) (by rfl) (by kernel_rfl) (by kernel_rfl) (by kernel_rfl) (by exact fun _ _ _ h => h) (Or.inl ⟨by rfl, ?_⟩) hHeld ?_
 rotate_left
 ·(intro w hSw;(try dsimp only at hSw);go_simp;try with_reducible rfl)
 simp only [Act.put, List.getElem_toArray, List.getElem_cons_succ, List.getElem_cons_zero, List.setIfInBounds_toArray, List.set_cons_zero, List.set_cons_succ]
 refine wpAnyH_ready (rs := [6]) (by kernel_rfl) (by simp) ?_
 refine AllReadyH.cons (by rfl) (fun K hK => ?_) AllReadyH.nil
 go_simp
 (with_reducible refine (length_L l hl _).mono ?_);rintro e w2 ⟨rfl, hb2⟩;have hp2 := hp1.on hb2;have hi2 := hi1.on hb2;have hw2 := hw1.trans (hb2.mono hw1.size)
 refine hK.out _ _ ⟨hi2.cell 0, hi2.cell 1, hi2.cell 2, hi2.cell 3, hi2.cell 4, hi2.cell 5, hi2.cell 6, hi2.cell 7, hi2.cell 8, hi2.cell 9, hi2.cell 10, hi2.cell 11, hi2.cell 12, hp2.cell 6⟩ (fun hHeld => ?_)
 clear hK K
 try simp only [Act.put, List.getElem_toArray, List.getElem_cons_succ, List.getElem_cons_zero, List.setIfInBounds_toArray, List.set_cons_zero, List.set_cons_succ]
 refine wpAnyH_take (i := 11) (v := ?_) (by rfl) (by kernel_rfl) (by kernel_rfl) (by kernel_rfl) (by exact fun _ _ _ h => h) (Or.inl ⟨by rfl, ?_⟩) hHeld ?_
 rotate_left
 ·(intro w hSw;(try dsimp only at hSw);go_simp;try with_reducible rfl)
 simp only [Act.put, List.getElem_toArray, List.getElem_cons_succ, List.getElem_cons_zero, List.setIfInBounds_toArray, List.set_cons_zero, List.set_cons_succ]
 refine wpAnyH_take (i := 12) (v := ?_) (by rfl) (by kernel_rfl) (by kernel_rfl) (by kernel_rfl) (by exact fun _ _ _ h => h) (Or.inl ⟨by rfl, ?_⟩) hHeld ?_
 rotate_left
 ·(intro w hSw;(try dsimp only at hSw);go_simp;try with_reducible rfl)
 simp only [Act.put, List.getElem_toArray, List.getElem_cons_succ, List.getElem_cons_zero, List.setIfInBounds_toArray, List.set_cons_zero, List.set_cons_succ]
 try simp only [Act.put, List.getElem_toArray, List.getElem_cons_succ, List.getElem_cons_zero, List.setIfInBounds_toArray, List.set_cons_zero, List.set_cons_succ]
 refine wpAnyH_done (by kernel_rfl) ?_ _
 go_wp2
 go_ret
 exact ⟨rfl, hw2⟩
set_option maxRecDepth 100000 in
set_option maxHeartbeats 4000000 in
theorem streams_D1 {p m s sn sc : Nat} {ps ss : Array Value} {pad code la inc dep wt xc xs : Int} {sole xi : Bool} {da : Bytes} {sa : Option Addr} (w : World) (h : Blk w p 97 ps) (h11 : ps[11]? = some (.map (some m))) (hm : PMap Tryz.prog 3 w m [(1, s)]) (hs : Blk w s 118 ss) (h4 : ss[4]? = some (.bool false)) (h5 : ss[5]? = some (.bool false)) (h7 : ss[7]? = some (.int .i64 1)) :
  Calls Tryz.prog 51 #[Ptr p, .agg #[.int .i64 0, .int .i64 1, .int .i64 1, S da, .int .i64 pad, .slice sa sn sc, .int .i64 code, .int .i64 la, .int .i64 inc, .int .i64 dep, .int .i64 wt, .bool sole, .bool xi, .int .i64 xc, .int .i64 xs]] w fun e w' => e = .returned (.int .i64 0) ∧ Below w.heap.size w w' := by
 obtain ⟨W, eW⟩ : ∃ W, W = (w.alloc (.cells #[.int .i64 0, .int .i64 1, .int .i64 1, S da, .int .i64 pad, .slice sa sn sc, .int .i64 code, .int .i64 la, .int .i64 inc, .int .i64 dep, .int .i64 wt, .bool sole, .bool xi, .int .i64 xc, .int .i64 xs] 74)).alloc (.cells #[.int .i64 0, .int .i64 1, .int .i64 1, S da, .int .i64 pad, .slice sa sn sc, .int .i64 code, .int .i64 la, .int .i64 inc, .int .i64 dep, .int .i64 wt, .bool sole] 34) := ⟨_, rfl⟩
 have hb : Below w.heap.size w W := by rw [eW];exact ((Below.refl _ _).alloc (Nat.le_refl _) _).alloc (by simp) _
 have hF : Blk W (w.heap.size + 1) 34 #[.int .i64 0, .int .i64 1, .int .i64 1, S da, .int .i64 pad, .slice sa sn sc, .int .i64 code, .int .i64 la, .int .i64 inc, .int .i64 dep, .int .i64 wt, .bool sole] := by rw [eW, ← World.size_alloc];exact Blk.new _ _ _
 have hP := h.on hb
 have hS := hs.on hb
 have y11 : W.cell? ⟨p, 11, none⟩ = some (.map (some m)) := (hP.cell 11).trans h11
 have u0 : W.cell? ⟨w.heap.size + 1, 0, none⟩ = some (.int .i64 0) := hF.cell 0
 have u1 : W.cell? ⟨w.heap.size + 1, 1, none⟩ = some (.int .i64 1) := hF.cell 1
 have u2 : W.cell? ⟨w.heap.size + 1, 2, none⟩ = some (.int .i64 1) := hF.cell 2
 have q4 : W.cell? ⟨s, 4, none⟩ = some (.bool false) := (hS.cell 4).trans h4
 have q5 : W.cell? ⟨s, 5, none⟩ = some (.bool false) := (hS.cell 5).trans h5
 have q7 : W.cell? ⟨s, 7, none⟩ = some (.int .i64 1) := (hS.cell 7).trans h7
 have k1 := one_get (pmap_below hm hb)
 have k2 := one_get (show PMap Tryz.prog 3 W.drew m [(1, s)] from (pmap_below hm hb).block rfl)
 have bt : bits .and .i64 1 1 = 1 := by decide
 go_enter Tryz.func51, Tryz.ntmps51
 go_upto_region 10 with fail
 rw [← eW]
 clear eW
 go_region_with (fail)
 all_goals go_wp2
 all_goals go_ret
 all_goals exact ⟨rfl, hb.drew⟩
set_option maxRecDepth 100000 in
set_option maxHeartbeats 4000000 in
theorem streams_dead {p m s sn sc : Nat} {ps ss : Array Value} {pad code la inc dep wt xc xs : Int} {sole xi : Bool} {da : Bytes} {sa : Option Addr} (w : World) (h : Blk w p 97 ps) (h11 : ps[11]? = some (.map (some m))) (hm : PMap Tryz.prog 3 w m [(1, s)]) (hs : Blk w s 118 ss) (h4 : ss[4]? = some (.bool true)) (h5 : ss[5]? = some (.bool false)) (h7 : ss[7]? = some (.int .i64 1)) :
  Calls Tryz.prog 51 #[Ptr p, .agg #[.int .i64 0, .int .i64 1, .int .i64 1, S da, .int .i64 pad, .slice sa sn sc, .int .i64 code, .int .i64 la, .int .i64 inc, .int .i64 dep, .int .i64 wt, .bool sole, .bool xi, .int .i64 xc, .int .i64 xs]] w fun e w' => e = .returned (.int .i64 241) ∧ Below w.heap.size w w' := by
 obtain ⟨W, eW⟩ : ∃ W, W = (w.alloc (.cells #[.int .i64 0, .int .i64 1, .int .i64 1, S da, .int .i64 pad, .slice sa sn sc, .int .i64 code, .int .i64 la, .int .i64 inc, .int .i64 dep, .int .i64 wt, .bool sole, .bool xi, .int .i64 xc, .int .i64 xs] 74)).alloc (.cells #[.int .i64 0, .int .i64 1, .int .i64 1, S da, .int .i64 pad, .slice sa sn sc, .int .i64 code, .int .i64 la, .int .i64 inc, .int .i64 dep, .int .i64 wt, .bool sole] 34) := ⟨_, rfl⟩
 have hb : Below w.heap.size w W := by rw [eW];exact ((Below.refl _ _).alloc (Nat.le_refl _) _).alloc (by simp) _
 have hF : Blk W (w.heap.size + 1) 34 #[.int .i64 0, .int .i64 1, .int .i64 1, S da, .int .i64 pad, .slice sa sn sc, .int .i64 code, .int .i64 la, .int .i64 inc, .int .i64 dep, .int .i64 wt, .bool sole] := by rw [eW, ← World.size_alloc];exact Blk.new _ _ _
 have hP := h.on hb
 have hS := hs.on hb
 have y11 : W.cell? ⟨p, 11, none⟩ = some (.map (some m)) := (hP.cell 11).trans h11
 have u0 : W.cell? ⟨w.heap.size + 1, 0, none⟩ = some (.int .i64 0) := hF.cell 0
 have u1 : W.cell? ⟨w.heap.size + 1, 1, none⟩ = some (.int .i64 1) := hF.cell 1
 have u2 : W.cell? ⟨w.heap.size + 1, 2, none⟩ = some (.int .i64 1) := hF.cell 2
 have q4 : W.cell? ⟨s, 4, none⟩ = some (.bool true) := (hS.cell 4).trans h4
 have q5 : W.cell? ⟨s, 5, none⟩ = some (.bool false) := (hS.cell 5).trans h5
 have q7 : W.cell? ⟨s, 7, none⟩ = some (.int .i64 1) := (hS.cell 7).trans h7
 have k1 := one_get (pmap_below hm hb)
 have k2 := one_get (show PMap Tryz.prog 3 W.drew m [(1, s)] from (pmap_below hm hb).block rfl)
 have bt : bits .and .i64 1 1 = 1 := by decide
 go_enter Tryz.func51, Tryz.ntmps51
 go_upto_region 10 with fail
 rw [← eW]
 clear eW
 go_region_with (fail)
 all_goals go_wp2
 all_goals go_ret
 all_goals exact ⟨rfl, hb.drew⟩
theorem one_none {w : World} {m s : Nat} (h : PMap Tryz.prog 3 w m [(1, s)]) : (Instr.lookup 90 (.map (some m)) (.int .i64 3) false).run Tryz.prog w = .ok (.pointer none) w := by
 rcases PMap.get h (t := 90) Tryz.underlying3 Tryz.underlying90 (zeroSide w) 3 (by decide) with ⟨b, hm, e⟩ | ⟨hn, e⟩
 ·simp at hm
 ·exact e
set_option maxRecDepth 100000 in
set_option maxHeartbeats 4000000 in
theorem streams_R {p m s sn sc : Nat} {ps : Array Value} {pad code la inc dep wt xc xs : Int} {sole xi : Bool} {da : Bytes} {sa : Option Addr} (w : World) (h : Blk w p 97 ps) (h11 : ps[11]? = some (.map (some m))) (hm : PMap Tryz.prog 3 w m [(1, s)]) :
  Calls Tryz.prog 51 #[Ptr p, .agg #[.int .i64 3, .int .i64 0, .int .i64 3, S da, .int .i64 pad, .slice sa sn sc, .int .i64 code, .int .i64 la, .int .i64 inc, .int .i64 dep, .int .i64 wt, .bool sole, .bool xi, .int .i64 xc, .int .i64 xs]] w fun e w' => e = .returned (.int .i64 241) ∧ Below w.heap.size w w' := by
 obtain ⟨W, eW⟩ : ∃ W, W = (w.alloc (.cells #[.int .i64 3, .int .i64 0, .int .i64 3, S da, .int .i64 pad, .slice sa sn sc, .int .i64 code, .int .i64 la, .int .i64 inc, .int .i64 dep, .int .i64 wt, .bool sole, .bool xi, .int .i64 xc, .int .i64 xs] 74)).alloc (.cells #[.int .i64 3, .int .i64 0, .int .i64 3, S da, .int .i64 pad, .slice sa sn sc, .int .i64 code, .int .i64 la, .int .i64 inc, .int .i64 dep, .int .i64 wt, .bool sole] 34) := ⟨_, rfl⟩
 have hb : Below w.heap.size w W := by rw [eW];exact ((Below.refl _ _).alloc (Nat.le_refl _) _).alloc (by simp) _
 have hF : Blk W (w.heap.size + 1) 34 #[.int .i64 3, .int .i64 0, .int .i64 3, S da, .int .i64 pad, .slice sa sn sc, .int .i64 code, .int .i64 la, .int .i64 inc, .int .i64 dep, .int .i64 wt, .bool sole] := by rw [eW, ← World.size_alloc];exact Blk.new _ _ _
 have hP := h.on hb
 have y11 : W.cell? ⟨p, 11, none⟩ = some (.map (some m)) := (hP.cell 11).trans h11
 have u0 : W.cell? ⟨w.heap.size + 1, 0, none⟩ = some (.int .i64 3) := hF.cell 0
 have u1 : W.cell? ⟨w.heap.size + 1, 1, none⟩ = some (.int .i64 0) := hF.cell 1
 have u2 : W.cell? ⟨w.heap.size + 1, 2, none⟩ = some (.int .i64 3) := hF.cell 2
 have k1 := one_none (pmap_below hm hb)
 have k2 := one_none (show PMap Tryz.prog 3 W.drew m [(1, s)] from (pmap_below hm hb).block rfl)
 have bt : bits .and .i64 0 1 = 0 := by decide
 go_enter Tryz.func51, Tryz.ntmps51
 go_upto_region 10 with fail
 rw [← eW]
 clear eW
 go_region_with (fail)
 all_goals go_wp2
 all_goals go_ret
 all_goals exact ⟨rfl, hb.drew⟩
set_option maxRecDepth 100000 in
set_option maxHeartbeats 4000000 in
theorem whole_G {vout vin voff vdec vpings vbegan vorder vblock : Value} {all beg frames tab sts last of away bad : Int} {first ends closed : Bool} {p : Nat} {st pad inc dep wt xc xs : Int} {sole xi : Bool} {da : Bytes} {sa : Option Addr} {sn sc : Nat} (w : World) (h : Blk w p 97 #[vout, vin, .int .i64 all, .int .i64 beg, voff, vdec, .int .i64 frames, .int .i64 tab, .int .i64 sts, vpings, .int .i64 1, vbegan, vorder, .bool first, .int .i64 of, .bool ends, vblock, .int .i64 away, .bool closed, .int .i64 bad]) (haw : 1 ≤ away) :
  Calls Tryz.prog 50 #[Ptr p, .agg #[.int .i64 7, .int .i64 0, .int .i64 st, S da, .int .i64 pad, .slice sa sn sc, .int .i64 1, .int .i64 1, .int .i64 inc, .int .i64 dep, .int .i64 wt, .bool sole, .bool xi, .int .i64 xc, .int .i64 xs]] w fun e w' => e = .returned (.int .i64 0) ∧ Blk w' p 97 #[vout, vin, .int .i64 all, .int .i64 beg, voff, vdec, .int .i64 frames, .int .i64 tab, .int .i64 sts, vpings, .int .i64 1, vbegan, vorder, .bool first, .int .i64 of, .bool ends, vblock, .int .i64 1, .bool true, .int .i64 bad] ∧ But (fun k => k = p) w w' := by
 obtain ⟨W, eW⟩ : ∃ W, W = (w.alloc (.cells #[.int .i64 7, .int .i64 0, .int .i64 st, S da, .int .i64 pad, .slice sa sn sc, .int .i64 1, .int .i64 1, .int .i64 inc, .int .i64 dep, .int .i64 wt, .bool sole, .bool xi, .int .i64 xc, .int .i64 xs] 74)).alloc (.cells #[.int .i64 7, .int .i64 0, .int .i64 st, S da, .int .i64 pad, .slice sa sn sc, .int .i64 1, .int .i64 1, .int .i64 inc, .int .i64 dep, .int .i64 wt, .bool sole] 34) := ⟨_, rfl⟩
 have hb : Below w.heap.size w W := by rw [eW];exact ((Below.refl _ _).alloc (Nat.le_refl _) _).alloc (by simp) _
 have hF : Blk W (w.heap.size + 1) 34 #[.int .i64 7, .int .i64 0, .int .i64 st, S da, .int .i64 pad, .slice sa sn sc, .int .i64 1, .int .i64 1, .int .i64 inc, .int .i64 dep, .int .i64 wt, .bool sole] := by rw [eW, ← World.size_alloc];exact Blk.new _ _ _
 have hP := h.on hb
 have hlt := h.lt
 have uu0 : W.cell? ⟨w.heap.size + 1, 0, none⟩ = some (.int .i64 7) := hF.cell 0
 have uu1 : W.cell? ⟨w.heap.size + 1, 1, none⟩ = some (.int .i64 0) := hF.cell 1
 have uu6 : W.cell? ⟨w.heap.size + 1, 6, none⟩ = some (.int .i64 1) := hF.cell 6
 have uu7 : W.cell? ⟨w.heap.size + 1, 7, none⟩ = some (.int .i64 1) := hF.cell 7
 have y10 : W.cell? ⟨p, 10, none⟩ = some (.int .i64 1) := hP.cell 10
 have y17 : W.cell? ⟨p, 17, none⟩ = some (.int .i64 away) := hP.cell 17
 have y18 : W.cell? ⟨p, 18, none⟩ = some (.bool closed) := hP.cell 18
 have f17 := hP.free 17
 have f18 := hP.free 18
 have bt : bits .and .i64 0 1 = 0 := by decide
 have hq : ¬ away < 1 := by omega
 go_enter Tryz.func50, Tryz.ntmps50
 go_upto_region 12 with fail
 rw [← eW]
 clear eW
 go_cut [5, 83] (fun s5 s83 wx => s5 = Ptr (w.heap.size + 1) ∧ s83 = .bool false ∧ W.drew = wx)
 case first =>
  go_region
  all_goals (go_wp2;go_meet)
  all_goals exact ⟨rfl, rfl, rfl⟩
 case rest =>
  obtain ⟨rfl, rfl, rfl⟩ := hcut
  have v6 : W.drew.cell? ⟨w.heap.size + 1, 6, none⟩ = some (.int .i64 1) := uu6
  have v7 : W.drew.cell? ⟨w.heap.size + 1, 7, none⟩ = some (.int .i64 1) := uu7
  have g17 : W.drew.frozen? ⟨p, 17, none⟩ = false := f17
  have g18 : W.drew.frozen? ⟨p, 18, none⟩ = false := f18
  have z17 : W.drew.cell? ⟨p, 17, none⟩ = some (.int .i64 away) := y17
  have z18 : W.drew.cell? ⟨p, 18, none⟩ = some (.bool closed) := y18
  go_upto_region 14 with fail
  go_region
  all_goals go_wp2
  all_goals go_ret
  all_goals exact ⟨rfl, by first | exact ((hP.drew.set 17 _).set 18 _).drew | exact ((hP.drew.set 18 _).set 17 _).drew, by first | exact (((But.of_below (S := fun k => k = p) hb.drew).setCell (p := ⟨p, 17, none⟩) (.inl rfl) _).setCell (p := ⟨p, 18, none⟩) (.inl rfl) _).drew | exact (((But.of_below (S := fun k => k = p) hb.drew).setCell (p := ⟨p, 18, none⟩) (.inl rfl) _).setCell (p := ⟨p, 17, none⟩) (.inl rfl) _).drew⟩
end Go.Proofs.YtkeeofhjdffhbaaGreatDoor
