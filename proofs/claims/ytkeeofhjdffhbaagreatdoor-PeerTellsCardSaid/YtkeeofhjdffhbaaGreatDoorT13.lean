/- Parts of the proof of pt_root: the texts Per1. -/
import Derived.Test.YtkeeofhjdffhbaaGreatDoorT8
set_option linter.unusedSimpArgs false
set_option linter.unusedVariables false
set_option linter.unnecessarySimpa false
namespace Go.Proofs.YtkeeofhjdffhbaaGreatDoor
open Go.RowKit Go.Dr
set_option maxRecDepth 100000 in
set_option maxHeartbeats 4000000 in
theorem after_ok {vout vin voff vdec vpings vbegan vorder vblock : Value} {all beg frames tab sts last of away bad : Int} {first ends closed : Bool} {p : Nat} {ty fl st pad code la inc dep wt xc xs : Int} {sole xi : Bool} {da : Bytes} {sa : Option Addr} {sn sc : Nat} (w : World) (h : Blk w p 97 #[vout, vin, .int .i64 all, .int .i64 beg, voff, vdec, .int .i64 frames, .int .i64 tab, .int .i64 sts, vpings, .int .i64 last, vbegan, vorder, .bool first, .int .i64 of, .bool ends, vblock, .int .i64 away, .bool false, .int .i64 bad]) :
  Calls Tryz.prog 47 #[Ptr p, .agg #[.int .i64 ty, .int .i64 fl, .int .i64 st, S da, .int .i64 pad, .slice sa sn sc, .int .i64 code, .int .i64 la, .int .i64 inc, .int .i64 dep, .int .i64 wt, .bool sole, .bool xi, .int .i64 xc, .int .i64 xs]] w fun e w' => e = .returned (.int .i64 0) ∧ Below w.heap.size w w' := by
 have y0 : w.cell? ⟨p, 0, none⟩ = some (vout) := h.cell 0
 have y1 : w.cell? ⟨p, 1, none⟩ = some (vin) := h.cell 1
 have y2 : w.cell? ⟨p, 2, none⟩ = some (.int .i64 all) := h.cell 2
 have y3 : w.cell? ⟨p, 3, none⟩ = some (.int .i64 beg) := h.cell 3
 have y4 : w.cell? ⟨p, 4, none⟩ = some (voff) := h.cell 4
 have y5 : w.cell? ⟨p, 5, none⟩ = some (vdec) := h.cell 5
 have y6 : w.cell? ⟨p, 6, none⟩ = some (.int .i64 frames) := h.cell 6
 have y7 : w.cell? ⟨p, 7, none⟩ = some (.int .i64 tab) := h.cell 7
 have y8 : w.cell? ⟨p, 8, none⟩ = some (.int .i64 sts) := h.cell 8
 have y9 : w.cell? ⟨p, 9, none⟩ = some (vpings) := h.cell 9
 have y10 : w.cell? ⟨p, 10, none⟩ = some (.int .i64 last) := h.cell 10
 have y11 : w.cell? ⟨p, 11, none⟩ = some (vbegan) := h.cell 11
 have y12 : w.cell? ⟨p, 12, none⟩ = some (vorder) := h.cell 12
 have y13 : w.cell? ⟨p, 13, none⟩ = some (.bool first) := h.cell 13
 have y14 : w.cell? ⟨p, 14, none⟩ = some (.int .i64 of) := h.cell 14
 have y15 : w.cell? ⟨p, 15, none⟩ = some (.bool ends) := h.cell 15
 have y16 : w.cell? ⟨p, 16, none⟩ = some (vblock) := h.cell 16
 have y17 : w.cell? ⟨p, 17, none⟩ = some (.int .i64 away) := h.cell 17
 have y18 : w.cell? ⟨p, 18, none⟩ = some (.bool false) := h.cell 18
 have y19 : w.cell? ⟨p, 19, none⟩ = some (.int .i64 bad) := h.cell 19
 have hlt := h.lt
 go_enter Tryz.func47, Tryz.ntmps47
 go_wp2
 all_goals go_ret
 all_goals exact ⟨rfl, by repeat (first | (with_reducible exact Below.refl _ _) | (with_reducible refine Below.drew ?_) | ((with_reducible refine Below.alloc ?_ ?_ _);rotate_left;(first | omega | exact (by simp <;> omega))))⟩
set_option maxRecDepth 100000 in
set_option maxHeartbeats 4000000 in
theorem piece_set {vout vin voff vdec vpings vbegan vorder vblock : Value} {all beg frames tab sts last of away bad : Int} {first ends closed : Bool} {p : Nat} {ty fl st pad code la inc dep wt xc xs : Int} {sole xi : Bool} {da : Bytes} {sa : Option Addr} {sn sc : Nat} (w : World) (h : Blk w p 97 #[vout, vin, .int .i64 all, .int .i64 beg, voff, vdec, .int .i64 frames, .int .i64 tab, .int .i64 sts, vpings, .int .i64 last, vbegan, vorder, .bool first, .int .i64 of, .bool ends, vblock, .int .i64 away, .bool closed, .int .i64 bad]) :
  Calls Tryz.prog 53 #[Ptr p, .agg #[.int .i64 4, .int .i64 fl, .int .i64 st, S da, .int .i64 pad, .slice sa sn sc, .int .i64 code, .int .i64 la, .int .i64 inc, .int .i64 dep, .int .i64 wt, .bool sole, .bool xi, .int .i64 xc, .int .i64 xs]] w fun e w' => e = .returned (.int .i64 0) ∧ Below w.heap.size w w' := by
 have y0 : w.cell? ⟨p, 0, none⟩ = some (vout) := h.cell 0
 have y1 : w.cell? ⟨p, 1, none⟩ = some (vin) := h.cell 1
 have y2 : w.cell? ⟨p, 2, none⟩ = some (.int .i64 all) := h.cell 2
 have y3 : w.cell? ⟨p, 3, none⟩ = some (.int .i64 beg) := h.cell 3
 have y4 : w.cell? ⟨p, 4, none⟩ = some (voff) := h.cell 4
 have y5 : w.cell? ⟨p, 5, none⟩ = some (vdec) := h.cell 5
 have y6 : w.cell? ⟨p, 6, none⟩ = some (.int .i64 frames) := h.cell 6
 have y7 : w.cell? ⟨p, 7, none⟩ = some (.int .i64 tab) := h.cell 7
 have y8 : w.cell? ⟨p, 8, none⟩ = some (.int .i64 sts) := h.cell 8
 have y9 : w.cell? ⟨p, 9, none⟩ = some (vpings) := h.cell 9
 have y10 : w.cell? ⟨p, 10, none⟩ = some (.int .i64 last) := h.cell 10
 have y11 : w.cell? ⟨p, 11, none⟩ = some (vbegan) := h.cell 11
 have y12 : w.cell? ⟨p, 12, none⟩ = some (vorder) := h.cell 12
 have y13 : w.cell? ⟨p, 13, none⟩ = some (.bool first) := h.cell 13
 have y14 : w.cell? ⟨p, 14, none⟩ = some (.int .i64 of) := h.cell 14
 have y15 : w.cell? ⟨p, 15, none⟩ = some (.bool ends) := h.cell 15
 have y16 : w.cell? ⟨p, 16, none⟩ = some (vblock) := h.cell 16
 have y17 : w.cell? ⟨p, 17, none⟩ = some (.int .i64 away) := h.cell 17
 have y18 : w.cell? ⟨p, 18, none⟩ = some (.bool closed) := h.cell 18
 have y19 : w.cell? ⟨p, 19, none⟩ = some (.int .i64 bad) := h.cell 19
 have hlt := h.lt
 go_enter Tryz.func53, Tryz.ntmps53
 go_wp2
 all_goals go_ret
 all_goals exact ⟨rfl, by repeat (first | (with_reducible exact Below.refl _ _) | (with_reducible refine Below.drew ?_) | ((with_reducible refine Below.alloc ?_ ?_ _);rotate_left;(first | omega | exact (by simp <;> omega))))⟩
set_option maxRecDepth 100000 in
set_option maxHeartbeats 4000000 in
theorem data_set {vout vin voff vdec vpings vbegan vorder vblock : Value} {all beg frames tab sts last of away bad : Int} {first ends closed : Bool} {p : Nat} {ty fl st pad code la inc dep wt xc xs : Int} {sole xi : Bool} {da : Bytes} {sa : Option Addr} {sn sc : Nat} (w : World) (h : Blk w p 97 #[vout, vin, .int .i64 all, .int .i64 beg, voff, vdec, .int .i64 frames, .int .i64 tab, .int .i64 sts, vpings, .int .i64 last, vbegan, vorder, .bool first, .int .i64 of, .bool ends, vblock, .int .i64 away, .bool closed, .int .i64 bad]) :
  Calls Tryz.prog 52 #[Ptr p, .agg #[.int .i64 4, .int .i64 fl, .int .i64 st, S da, .int .i64 pad, .slice sa sn sc, .int .i64 code, .int .i64 la, .int .i64 inc, .int .i64 dep, .int .i64 wt, .bool sole, .bool xi, .int .i64 xc, .int .i64 xs]] w fun e w' => e = .returned (.int .i64 0) ∧ Below w.heap.size w w' := by
 have y0 : w.cell? ⟨p, 0, none⟩ = some (vout) := h.cell 0
 have y1 : w.cell? ⟨p, 1, none⟩ = some (vin) := h.cell 1
 have y2 : w.cell? ⟨p, 2, none⟩ = some (.int .i64 all) := h.cell 2
 have y3 : w.cell? ⟨p, 3, none⟩ = some (.int .i64 beg) := h.cell 3
 have y4 : w.cell? ⟨p, 4, none⟩ = some (voff) := h.cell 4
 have y5 : w.cell? ⟨p, 5, none⟩ = some (vdec) := h.cell 5
 have y6 : w.cell? ⟨p, 6, none⟩ = some (.int .i64 frames) := h.cell 6
 have y7 : w.cell? ⟨p, 7, none⟩ = some (.int .i64 tab) := h.cell 7
 have y8 : w.cell? ⟨p, 8, none⟩ = some (.int .i64 sts) := h.cell 8
 have y9 : w.cell? ⟨p, 9, none⟩ = some (vpings) := h.cell 9
 have y10 : w.cell? ⟨p, 10, none⟩ = some (.int .i64 last) := h.cell 10
 have y11 : w.cell? ⟨p, 11, none⟩ = some (vbegan) := h.cell 11
 have y12 : w.cell? ⟨p, 12, none⟩ = some (vorder) := h.cell 12
 have y13 : w.cell? ⟨p, 13, none⟩ = some (.bool first) := h.cell 13
 have y14 : w.cell? ⟨p, 14, none⟩ = some (.int .i64 of) := h.cell 14
 have y15 : w.cell? ⟨p, 15, none⟩ = some (.bool ends) := h.cell 15
 have y16 : w.cell? ⟨p, 16, none⟩ = some (vblock) := h.cell 16
 have y17 : w.cell? ⟨p, 17, none⟩ = some (.int .i64 away) := h.cell 17
 have y18 : w.cell? ⟨p, 18, none⟩ = some (.bool closed) := h.cell 18
 have y19 : w.cell? ⟨p, 19, none⟩ = some (.int .i64 bad) := h.cell 19
 have hlt := h.lt
 go_enter Tryz.func52, Tryz.ntmps52
 go_wp2
 all_goals go_ret
 all_goals exact ⟨rfl, by repeat (first | (with_reducible exact Below.refl _ _) | (with_reducible refine Below.drew ?_) | ((with_reducible refine Below.alloc ?_ ?_ _);rotate_left;(first | omega | exact (by simp <;> omega))))⟩
set_option maxRecDepth 100000 in
set_option maxHeartbeats 4000000 in
theorem whole_data {vout vin voff vdec vpings vbegan vorder vblock : Value} {all beg frames tab sts last of away bad : Int} {first ends closed : Bool} {p : Nat} {ty fl st pad code la inc dep wt xc xs : Int} {sole xi : Bool} {da : Bytes} {sa : Option Addr} {sn sc : Nat} (w : World) (h : Blk w p 97 #[vout, vin, .int .i64 all, .int .i64 beg, voff, vdec, .int .i64 frames, .int .i64 tab, .int .i64 sts, vpings, .int .i64 last, vbegan, vorder, .bool first, .int .i64 of, .bool ends, vblock, .int .i64 away, .bool closed, .int .i64 bad]) :
  Calls Tryz.prog 50 #[Ptr p, .agg #[.int .i64 0, .int .i64 0, .int .i64 st, S da, .int .i64 pad, .slice sa sn sc, .int .i64 code, .int .i64 la, .int .i64 inc, .int .i64 dep, .int .i64 wt, .bool sole, .bool xi, .int .i64 xc, .int .i64 xs]] w fun e w' => e = .returned (.int .i64 0) ∧ Below w.heap.size w w' := by
 have y0 : w.cell? ⟨p, 0, none⟩ = some (vout) := h.cell 0
 have y1 : w.cell? ⟨p, 1, none⟩ = some (vin) := h.cell 1
 have y2 : w.cell? ⟨p, 2, none⟩ = some (.int .i64 all) := h.cell 2
 have y3 : w.cell? ⟨p, 3, none⟩ = some (.int .i64 beg) := h.cell 3
 have y4 : w.cell? ⟨p, 4, none⟩ = some (voff) := h.cell 4
 have y5 : w.cell? ⟨p, 5, none⟩ = some (vdec) := h.cell 5
 have y6 : w.cell? ⟨p, 6, none⟩ = some (.int .i64 frames) := h.cell 6
 have y7 : w.cell? ⟨p, 7, none⟩ = some (.int .i64 tab) := h.cell 7
 have y8 : w.cell? ⟨p, 8, none⟩ = some (.int .i64 sts) := h.cell 8
 have y9 : w.cell? ⟨p, 9, none⟩ = some (vpings) := h.cell 9
 have y10 : w.cell? ⟨p, 10, none⟩ = some (.int .i64 last) := h.cell 10
 have y11 : w.cell? ⟨p, 11, none⟩ = some (vbegan) := h.cell 11
 have y12 : w.cell? ⟨p, 12, none⟩ = some (vorder) := h.cell 12
 have y13 : w.cell? ⟨p, 13, none⟩ = some (.bool first) := h.cell 13
 have y14 : w.cell? ⟨p, 14, none⟩ = some (.int .i64 of) := h.cell 14
 have y15 : w.cell? ⟨p, 15, none⟩ = some (.bool ends) := h.cell 15
 have y16 : w.cell? ⟨p, 16, none⟩ = some (vblock) := h.cell 16
 have y17 : w.cell? ⟨p, 17, none⟩ = some (.int .i64 away) := h.cell 17
 have y18 : w.cell? ⟨p, 18, none⟩ = some (.bool closed) := h.cell 18
 have y19 : w.cell? ⟨p, 19, none⟩ = some (.int .i64 bad) := h.cell 19
 have hlt := h.lt
 have b0 : bits .and .i64 0 1 = 0 := by decide
 go_enter Tryz.func50, Tryz.ntmps50
 go_wp2
 all_goals go_ret
 all_goals exact ⟨rfl, by repeat (first | (with_reducible exact Below.refl _ _) | (with_reducible refine Below.drew ?_) | ((with_reducible refine Below.alloc ?_ ?_ _);rotate_left;(first | omega | exact (by simp <;> omega))))⟩
set_option maxRecDepth 100000 in
set_option maxHeartbeats 4000000 in
theorem whole_set {vout vin voff vdec vpings vbegan vorder vblock : Value} {all beg frames tab sts last of away bad : Int} {first ends closed : Bool} {p : Nat} {ty fl st pad code la inc dep wt xc xs : Int} {sole xi : Bool} {da : Bytes} {sa : Option Addr} {sn sc : Nat} (w : World) (h : Blk w p 97 #[vout, vin, .int .i64 all, .int .i64 beg, voff, vdec, .int .i64 frames, .int .i64 tab, .int .i64 sts, vpings, .int .i64 last, vbegan, vorder, .bool first, .int .i64 of, .bool ends, vblock, .int .i64 away, .bool closed, .int .i64 bad]) :
  Calls Tryz.prog 50 #[Ptr p, .agg #[.int .i64 4, .int .i64 0, .int .i64 st, S da, .int .i64 pad, .slice sa sn sc, .int .i64 code, .int .i64 la, .int .i64 inc, .int .i64 dep, .int .i64 wt, .bool sole, .bool xi, .int .i64 xc, .int .i64 xs]] w fun e w' => e = .returned (.int .i64 0) ∧ Below w.heap.size w w' := by
 have y0 : w.cell? ⟨p, 0, none⟩ = some (vout) := h.cell 0
 have y1 : w.cell? ⟨p, 1, none⟩ = some (vin) := h.cell 1
 have y2 : w.cell? ⟨p, 2, none⟩ = some (.int .i64 all) := h.cell 2
 have y3 : w.cell? ⟨p, 3, none⟩ = some (.int .i64 beg) := h.cell 3
 have y4 : w.cell? ⟨p, 4, none⟩ = some (voff) := h.cell 4
 have y5 : w.cell? ⟨p, 5, none⟩ = some (vdec) := h.cell 5
 have y6 : w.cell? ⟨p, 6, none⟩ = some (.int .i64 frames) := h.cell 6
 have y7 : w.cell? ⟨p, 7, none⟩ = some (.int .i64 tab) := h.cell 7
 have y8 : w.cell? ⟨p, 8, none⟩ = some (.int .i64 sts) := h.cell 8
 have y9 : w.cell? ⟨p, 9, none⟩ = some (vpings) := h.cell 9
 have y10 : w.cell? ⟨p, 10, none⟩ = some (.int .i64 last) := h.cell 10
 have y11 : w.cell? ⟨p, 11, none⟩ = some (vbegan) := h.cell 11
 have y12 : w.cell? ⟨p, 12, none⟩ = some (vorder) := h.cell 12
 have y13 : w.cell? ⟨p, 13, none⟩ = some (.bool first) := h.cell 13
 have y14 : w.cell? ⟨p, 14, none⟩ = some (.int .i64 of) := h.cell 14
 have y15 : w.cell? ⟨p, 15, none⟩ = some (.bool ends) := h.cell 15
 have y16 : w.cell? ⟨p, 16, none⟩ = some (vblock) := h.cell 16
 have y17 : w.cell? ⟨p, 17, none⟩ = some (.int .i64 away) := h.cell 17
 have y18 : w.cell? ⟨p, 18, none⟩ = some (.bool closed) := h.cell 18
 have y19 : w.cell? ⟨p, 19, none⟩ = some (.int .i64 bad) := h.cell 19
 have hlt := h.lt
 have b0 : bits .and .i64 0 1 = 0 := by decide
 go_enter Tryz.func50, Tryz.ntmps50
 go_wp2
 all_goals go_ret
 all_goals exact ⟨rfl, by repeat (first | (with_reducible exact Below.refl _ _) | (with_reducible refine Below.drew ?_) | ((with_reducible refine Below.alloc ?_ ?_ _);rotate_left;(first | omega | exact (by simp <;> omega))))⟩
set_option maxRecDepth 100000 in
set_option maxHeartbeats 4000000 in
theorem streams_set {vout vin voff vdec vpings vbegan vorder vblock : Value} {all beg frames tab sts last of away bad : Int} {first ends closed : Bool} {p : Nat} {ty fl st pad code la inc dep wt xc xs : Int} {sole xi : Bool} {da : Bytes} {sa : Option Addr} {sn sc : Nat} (w : World) (h : Blk w p 97 #[vout, vin, .int .i64 all, .int .i64 beg, voff, vdec, .int .i64 frames, .int .i64 tab, .int .i64 sts, vpings, .int .i64 last, vbegan, vorder, .bool first, .int .i64 of, .bool ends, vblock, .int .i64 away, .bool closed, .int .i64 bad]) :
  Calls Tryz.prog 51 #[Ptr p, .agg #[.int .i64 4, .int .i64 fl, .int .i64 st, S da, .int .i64 pad, .slice sa sn sc, .int .i64 code, .int .i64 la, .int .i64 inc, .int .i64 dep, .int .i64 wt, .bool sole, .bool xi, .int .i64 xc, .int .i64 xs]] w fun e w' => e = .returned (.int .i64 0) ∧ Below w.heap.size w w' := by
 have y0 : w.cell? ⟨p, 0, none⟩ = some (vout) := h.cell 0
 have y1 : w.cell? ⟨p, 1, none⟩ = some (vin) := h.cell 1
 have y2 : w.cell? ⟨p, 2, none⟩ = some (.int .i64 all) := h.cell 2
 have y3 : w.cell? ⟨p, 3, none⟩ = some (.int .i64 beg) := h.cell 3
 have y4 : w.cell? ⟨p, 4, none⟩ = some (voff) := h.cell 4
 have y5 : w.cell? ⟨p, 5, none⟩ = some (vdec) := h.cell 5
 have y6 : w.cell? ⟨p, 6, none⟩ = some (.int .i64 frames) := h.cell 6
 have y7 : w.cell? ⟨p, 7, none⟩ = some (.int .i64 tab) := h.cell 7
 have y8 : w.cell? ⟨p, 8, none⟩ = some (.int .i64 sts) := h.cell 8
 have y9 : w.cell? ⟨p, 9, none⟩ = some (vpings) := h.cell 9
 have y10 : w.cell? ⟨p, 10, none⟩ = some (.int .i64 last) := h.cell 10
 have y11 : w.cell? ⟨p, 11, none⟩ = some (vbegan) := h.cell 11
 have y12 : w.cell? ⟨p, 12, none⟩ = some (vorder) := h.cell 12
 have y13 : w.cell? ⟨p, 13, none⟩ = some (.bool first) := h.cell 13
 have y14 : w.cell? ⟨p, 14, none⟩ = some (.int .i64 of) := h.cell 14
 have y15 : w.cell? ⟨p, 15, none⟩ = some (.bool ends) := h.cell 15
 have y16 : w.cell? ⟨p, 16, none⟩ = some (vblock) := h.cell 16
 have y17 : w.cell? ⟨p, 17, none⟩ = some (.int .i64 away) := h.cell 17
 have y18 : w.cell? ⟨p, 18, none⟩ = some (.bool closed) := h.cell 18
 have y19 : w.cell? ⟨p, 19, none⟩ = some (.int .i64 bad) := h.cell 19
 have hlt := h.lt
 go_enter Tryz.func51, Tryz.ntmps51
 go_wp2
 all_goals go_ret
 all_goals exact ⟨rfl, by repeat (first | (with_reducible exact Below.refl _ _) | (with_reducible refine Below.drew ?_) | ((with_reducible refine Below.alloc ?_ ?_ _);rotate_left;(first | omega | exact (by simp <;> omega))))⟩
set_option maxRecDepth 100000 in
set_option maxHeartbeats 4000000 in
theorem pieces_first {vout vin voff vdec vpings vbegan vorder vblock : Value} {all beg frames tab sts last of away bad : Int} {first ends closed : Bool} {p : Nat} {ty fl st pad code la inc dep wt xc xs : Int} {sole xi : Bool} {da : Bytes} {sa : Option Addr} {sn sc : Nat} (w : World) (h : Blk w p 97 #[vout, vin, .int .i64 all, .int .i64 beg, voff, vdec, .int .i64 frames, .int .i64 tab, .int .i64 sts, vpings, .int .i64 last, vbegan, vorder, .bool true, .int .i64 0, .bool ends, vblock, .int .i64 away, .bool closed, .int .i64 bad]) :
  Calls Tryz.prog 49 #[Ptr p, .agg #[.int .i64 4, .int .i64 0, .int .i64 st, S da, .int .i64 pad, .slice sa sn sc, .int .i64 code, .int .i64 la, .int .i64 inc, .int .i64 dep, .int .i64 wt, .bool sole, .bool xi, .int .i64 xc, .int .i64 xs]] w fun e w' => e = .returned (.int .i64 0) ∧ Blk w' p 97 #[vout, vin, .int .i64 all, .int .i64 beg, voff, vdec, .int .i64 frames, .int .i64 tab, .int .i64 sts, vpings, .int .i64 last, vbegan, vorder, .bool false, .int .i64 0, .bool ends, vblock, .int .i64 away, .bool closed, .int .i64 bad] ∧ But (fun k => k = p) w w' := by
 have y0 : w.cell? ⟨p, 0, none⟩ = some (vout) := h.cell 0
 have y1 : w.cell? ⟨p, 1, none⟩ = some (vin) := h.cell 1
 have y2 : w.cell? ⟨p, 2, none⟩ = some (.int .i64 all) := h.cell 2
 have y3 : w.cell? ⟨p, 3, none⟩ = some (.int .i64 beg) := h.cell 3
 have y4 : w.cell? ⟨p, 4, none⟩ = some (voff) := h.cell 4
 have y5 : w.cell? ⟨p, 5, none⟩ = some (vdec) := h.cell 5
 have y6 : w.cell? ⟨p, 6, none⟩ = some (.int .i64 frames) := h.cell 6
 have y7 : w.cell? ⟨p, 7, none⟩ = some (.int .i64 tab) := h.cell 7
 have y8 : w.cell? ⟨p, 8, none⟩ = some (.int .i64 sts) := h.cell 8
 have y9 : w.cell? ⟨p, 9, none⟩ = some (vpings) := h.cell 9
 have y10 : w.cell? ⟨p, 10, none⟩ = some (.int .i64 last) := h.cell 10
 have y11 : w.cell? ⟨p, 11, none⟩ = some (vbegan) := h.cell 11
 have y12 : w.cell? ⟨p, 12, none⟩ = some (vorder) := h.cell 12
 have y13 : w.cell? ⟨p, 13, none⟩ = some (.bool true) := h.cell 13
 have y14 : w.cell? ⟨p, 14, none⟩ = some (.int .i64 0) := h.cell 14
 have y15 : w.cell? ⟨p, 15, none⟩ = some (.bool ends) := h.cell 15
 have y16 : w.cell? ⟨p, 16, none⟩ = some (vblock) := h.cell 16
 have y17 : w.cell? ⟨p, 17, none⟩ = some (.int .i64 away) := h.cell 17
 have y18 : w.cell? ⟨p, 18, none⟩ = some (.bool closed) := h.cell 18
 have y19 : w.cell? ⟨p, 19, none⟩ = some (.int .i64 bad) := h.cell 19
 have hlt := h.lt
 have b0 : bits .and .i64 0 1 = 0 := by decide
 have f13 := h.free 13
 go_enter Tryz.func49, Tryz.ntmps49
 go_upto_region 4 with fail
 refine wp_region_held_drew (S := (fun wx => wx.cell? ⟨p, 14, none⟩ = some (.int .i64 0))) (by kernel_rfl) (((h.alloc _).alloc _).drew.cell 14) (fun hHeld => ?_)
 refine wpAnyH_take (i := 0) (v := ?_) (by rfl) (by kernel_rfl) (by kernel_rfl) (by kernel_rfl) (by exact fun _ _ _ h => h) (Or.inl ⟨by rfl, ?_⟩) hHeld ?_
 rotate_left
 ·(intro w hSw;(try dsimp only at hSw);go_simp;try with_reducible rfl)
 simp only [Act.put, List.getElem_toArray, List.getElem_cons_succ, List.getElem_cons_zero, List.setIfInBounds_toArray, List.set_cons_zero, List.set_cons_succ]
 refine wpAnyH_take (i := 1) (v := ?_) (by rfl) (by kernel_rfl) (by kernel_rfl) (by kernel_rfl) (by exact fun _ _ _ h => h) (Or.inl ⟨by rfl, ?_⟩) hHeld ?_
 rotate_left
 ·(intro w hSw;(try dsimp only at hSw);go_simp;try with_reducible rfl)
 simp only [Act.put, List.getElem_toArray, List.getElem_cons_succ, List.getElem_cons_zero, List.setIfInBounds_toArray, List.set_cons_zero, List.set_cons_succ]
 refine wpAnyH_take (i := 2) (v := ?_) (by rfl) (by kernel_rfl) (by kernel_rfl) (by kernel_rfl) (by exact fun _ _ _ h => h) (Or.inl ⟨by rfl, ?_⟩) hHeld ?_
 rotate_left
 ·(intro w hSw;(try dsimp only at hSw);go_simp;try with_reducible rfl)
 simp only [Act.put, List.getElem_toArray, List.getElem_cons_succ, List.getElem_cons_zero, List.setIfInBounds_toArray, List.set_cons_zero, List.set_cons_succ]
 refine wpAnyH_take (i := 3) (v := ?_) (by rfl) (by kernel_rfl) (by kernel_rfl) (by kernel_rfl) (by exact fun _ _ _ h => h) (Or.inl ⟨by rfl, ?_⟩) hHeld ?_
 rotate_left
 ·(intro w hSw;(try dsimp only at hSw);go_simp;try with_reducible rfl)
 simp only [Act.put, List.getElem_toArray, List.getElem_cons_succ, List.getElem_cons_zero, List.setIfInBounds_toArray, List.set_cons_zero, List.set_cons_succ]
 refine wpAnyH_take (i := 4) (v := ?_) (by rfl) (by kernel_rfl) (by kernel_rfl) (by kernel_rfl) (by exact fun _ _ _ h => h) (Or.inl ⟨by rfl, ?_⟩) hHeld ?_
 rotate_left
 ·(intro w hSw;(try dsimp only at hSw);go_simp;try with_reducible rfl)
 simp only [Act.put, List.getElem_toArray, List.getElem_cons_succ, List.getElem_cons_zero, List.setIfInBounds_toArray, List.set_cons_zero, List.set_cons_succ]
 refine wpAnyH_take (i := 5) (v := ?_) (by rfl) (by kernel_rfl) (by kernel_rfl) (by kernel_rfl) (by exact fun _ _ _ h => h) (Or.inl ⟨by rfl, ?_⟩) hHeld ?_
 rotate_left
 ·(intro w hSw;(try dsimp only at hSw);go_simp;try with_reducible rfl)
 simp only [Act.put, List.getElem_toArray, List.getElem_cons_succ, List.getElem_cons_zero, List.setIfInBounds_toArray, List.set_cons_zero, List.set_cons_succ]
 refine wpAnyH_take (i := 6) (v := undef) (by rfl) (by kernel_rfl) (by kernel_rfl) (by kernel_rfl) (by exact fun _ _ _ h => h) (Or.inr ⟨by rfl, rfl⟩) hHeld ?_
 simp only [Act.put, List.getElem_toArray, List.getElem_cons_succ, List.getElem_cons_zero, List.setIfInBounds_toArray, List.set_cons_zero, List.set_cons_succ]
 refine wpAnyH_take (i := 7) (v := undef) (by rfl) (by kernel_rfl) (by kernel_rfl) (by kernel_rfl) (by exact fun _ _ _ h => h) (Or.inr ⟨by rfl, rfl⟩) hHeld ?_
 simp only [Act.put, List.getElem_toArray, List.getElem_cons_succ, List.getElem_cons_zero, List.setIfInBounds_toArray, List.set_cons_zero, List.set_cons_succ]
 refine wpAnyH_take (i := 8) (v := undef) (by rfl) (by kernel_rfl) (by kernel_rfl) (by kernel_rfl) (by exact fun _ _ _ h => h) (Or.inr ⟨by rfl, rfl⟩) hHeld ?_
 simp only [Act.put, List.getElem_toArray, List.getElem_cons_succ, List.getElem_cons_zero, List.setIfInBounds_toArray, List.set_cons_zero, List.set_cons_succ]
 refine wpAnyH_take (i := 9) (v := undef) (by rfl) (by kernel_rfl) (by kernel_rfl) (by kernel_rfl) (by exact fun _ _ _ h => h) (Or.inr ⟨by rfl, rfl⟩) hHeld ?_
 simp only [Act.put, List.getElem_toArray, List.getElem_cons_succ, List.getElem_cons_zero, List.setIfInBounds_toArray, List.set_cons_zero, List.set_cons_succ]
 refine wpAnyH_take (i := 10) (v := undef) (by rfl) (by kernel_rfl) (by kernel_rfl) (by kernel_rfl) (by exact fun _ _ _ h => h) (Or.inr ⟨by rfl, rfl⟩) hHeld ?_
 simp only [Act.put, List.getElem_toArray, List.getElem_cons_succ, List.getElem_cons_zero, List.setIfInBounds_toArray, List.set_cons_zero, List.set_cons_succ]
 refine wpAnyH_take (i := 11) (v := undef) (by rfl) (by kernel_rfl) (by kernel_rfl) (by kernel_rfl) (by exact fun _ _ _ h => h) (Or.inr ⟨by rfl, rfl⟩) hHeld ?_
 simp only [Act.put, List.getElem_toArray, List.getElem_cons_succ, List.getElem_cons_zero, List.setIfInBounds_toArray, List.set_cons_zero, List.set_cons_succ]
 refine wpAnyH_take (i := 12) (v := undef) (by rfl) (by kernel_rfl) (by kernel_rfl) (by kernel_rfl) (by exact fun _ _ _ h => h) (Or.inr ⟨by rfl, rfl⟩) hHeld ?_
 simp only [Act.put, List.getElem_toArray, List.getElem_cons_succ, List.getElem_cons_zero, List.setIfInBounds_toArray, List.set_cons_zero, List.set_cons_succ]
 refine wpAnyH_take (i := 13) (v := undef) (by rfl) (by kernel_rfl) (by kernel_rfl) (by kernel_rfl) (by exact fun _ _ _ h => h) (Or.inr ⟨by rfl, rfl⟩) hHeld ?_
 simp only [Act.put, List.getElem_toArray, List.getElem_cons_succ, List.getElem_cons_zero, List.setIfInBounds_toArray, List.set_cons_zero, List.set_cons_succ]
 refine wpAnyH_take (i := 14) (v := undef) (by rfl) (by kernel_rfl) (by kernel_rfl) (by kernel_rfl) (by exact fun _ _ _ h => h) (Or.inr ⟨by rfl, rfl⟩) hHeld ?_
 simp only [Act.put, List.getElem_toArray, List.getElem_cons_succ, List.getElem_cons_zero, List.setIfInBounds_toArray, List.set_cons_zero, List.set_cons_succ]
 refine wpAnyH_take (i := 15) (v := undef) (by rfl) (by kernel_rfl) (by kernel_rfl) (by kernel_rfl) (by exact fun _ _ _ h => h) (Or.inr ⟨by rfl, rfl⟩) hHeld ?_
 simp only [Act.put, List.getElem_toArray, List.getElem_cons_succ, List.getElem_cons_zero, List.setIfInBounds_toArray, List.set_cons_zero, List.set_cons_succ]
 refine wpAnyH_take (i := 16) (v := undef) (by rfl) (by kernel_rfl) (by kernel_rfl) (by kernel_rfl) (by exact fun _ _ _ h => h) (Or.inr ⟨by rfl, rfl⟩) hHeld ?_
 simp only [Act.put, List.getElem_toArray, List.getElem_cons_succ, List.getElem_cons_zero, List.setIfInBounds_toArray, List.set_cons_zero, List.set_cons_succ]
 refine wpAnyH_take (i := 17) (v := undef) (by rfl) (by kernel_rfl) (by kernel_rfl) (by kernel_rfl) (by exact fun _ _ _ h => h) (Or.inr ⟨by rfl, rfl⟩) hHeld ?_
 simp only [Act.put, List.getElem_toArray, List.getElem_cons_succ, List.getElem_cons_zero, List.setIfInBounds_toArray, List.set_cons_zero, List.set_cons_succ]
 refine wpAnyH_take (i := 18) (v := ?_) (by rfl) (by kernel_rfl) (by kernel_rfl) (by kernel_rfl) (by exact fun _ _ _ h => h) (Or.inl ⟨by rfl, ?_⟩) hHeld ?_
 rotate_left
 ·(intro w hSw;(try dsimp only at hSw);go_simp;try with_reducible rfl)
 simp only [Act.put, List.getElem_toArray, List.getElem_cons_succ, List.getElem_cons_zero, List.setIfInBounds_toArray, List.set_cons_zero, List.set_cons_succ]
 refine wpAnyH_take (i := 19) (v := ?_) (by rfl) (by kernel_rfl) (by kernel_rfl) (by kernel_rfl) (by exact fun _ _ _ h => h) (Or.inl ⟨by rfl, ?_⟩) hHeld ?_
 rotate_left
 ·(intro w hSw;(try dsimp only at hSw);go_simp;try with_reducible rfl)
 simp only [Act.put, List.getElem_toArray, List.getElem_cons_succ, List.getElem_cons_zero, List.setIfInBounds_toArray, List.set_cons_zero, List.set_cons_succ]
 try simp only [Act.put, List.getElem_toArray, List.getElem_cons_succ, List.getElem_cons_zero, List.setIfInBounds_toArray, List.set_cons_zero, List.set_cons_succ]
 refine wpAnyH_done (by kernel_rfl) ?_ _
 go_wp2
 go_ret
 exact ⟨rfl, (((h.set 13 _).alloc _).alloc _).drew, (((But.setCell (S := fun k => k = p) (But.refl _ w) (p := ⟨p, 13, none⟩) (.inl rfl) _).alloc _).alloc _).drew⟩
set_option maxRecDepth 100000 in
set_option maxHeartbeats 4000000 in
theorem pieces_wrong {vout vin voff vdec vpings vbegan vorder vblock : Value} {all beg frames tab sts last of away bad : Int} {first ends closed : Bool} {p : Nat} {ty fl st pad code la inc dep wt xc xs : Int} {sole xi : Bool} {da : Bytes} {sa : Option Addr} {sn sc : Nat} (w : World) (h : Blk w p 97 #[vout, vin, .int .i64 all, .int .i64 beg, voff, vdec, .int .i64 frames, .int .i64 tab, .int .i64 sts, vpings, .int .i64 last, vbegan, vorder, .bool true, .int .i64 of, .bool ends, vblock, .int .i64 away, .bool closed, .int .i64 bad]) (h1 : (ty != 4) = true) :
  Calls Tryz.prog 49 #[Ptr p, .agg #[.int .i64 ty, .int .i64 fl, .int .i64 st, S da, .int .i64 pad, .slice sa sn sc, .int .i64 code, .int .i64 la, .int .i64 inc, .int .i64 dep, .int .i64 wt, .bool sole, .bool xi, .int .i64 xc, .int .i64 xs]] w fun e w' => e = .returned (.int .i64 241) ∧ Below w.heap.size w w' := by
 have y0 : w.cell? ⟨p, 0, none⟩ = some (vout) := h.cell 0
 have y1 : w.cell? ⟨p, 1, none⟩ = some (vin) := h.cell 1
 have y2 : w.cell? ⟨p, 2, none⟩ = some (.int .i64 all) := h.cell 2
 have y3 : w.cell? ⟨p, 3, none⟩ = some (.int .i64 beg) := h.cell 3
 have y4 : w.cell? ⟨p, 4, none⟩ = some (voff) := h.cell 4
 have y5 : w.cell? ⟨p, 5, none⟩ = some (vdec) := h.cell 5
 have y6 : w.cell? ⟨p, 6, none⟩ = some (.int .i64 frames) := h.cell 6
 have y7 : w.cell? ⟨p, 7, none⟩ = some (.int .i64 tab) := h.cell 7
 have y8 : w.cell? ⟨p, 8, none⟩ = some (.int .i64 sts) := h.cell 8
 have y9 : w.cell? ⟨p, 9, none⟩ = some (vpings) := h.cell 9
 have y10 : w.cell? ⟨p, 10, none⟩ = some (.int .i64 last) := h.cell 10
 have y11 : w.cell? ⟨p, 11, none⟩ = some (vbegan) := h.cell 11
 have y12 : w.cell? ⟨p, 12, none⟩ = some (vorder) := h.cell 12
 have y13 : w.cell? ⟨p, 13, none⟩ = some (.bool true) := h.cell 13
 have y14 : w.cell? ⟨p, 14, none⟩ = some (.int .i64 of) := h.cell 14
 have y15 : w.cell? ⟨p, 15, none⟩ = some (.bool ends) := h.cell 15
 have y16 : w.cell? ⟨p, 16, none⟩ = some (vblock) := h.cell 16
 have y17 : w.cell? ⟨p, 17, none⟩ = some (.int .i64 away) := h.cell 17
 have y18 : w.cell? ⟨p, 18, none⟩ = some (.bool closed) := h.cell 18
 have y19 : w.cell? ⟨p, 19, none⟩ = some (.int .i64 bad) := h.cell 19
 have hlt := h.lt
 go_enter Tryz.func49, Tryz.ntmps49
 go_wp2
 all_goals go_ret
 all_goals exact ⟨rfl, by repeat (first | (with_reducible exact Below.refl _ _) | (with_reducible refine Below.drew ?_) | ((with_reducible refine Below.alloc ?_ ?_ _);rotate_left;(first | omega | exact (by simp <;> omega))))⟩
set_option maxRecDepth 100000 in
set_option maxHeartbeats 4000000 in
theorem pieces_on {vout vin voff vdec vpings vbegan vorder vblock : Value} {all beg frames tab sts last of away bad : Int} {first ends closed : Bool} {p : Nat} {ty fl st pad code la inc dep wt xc xs : Int} {sole xi : Bool} {da : Bytes} {sa : Option Addr} {sn sc : Nat} (w : World) (h : Blk w p 97 #[vout, vin, .int .i64 all, .int .i64 beg, voff, vdec, .int .i64 frames, .int .i64 tab, .int .i64 sts, vpings, .int .i64 last, vbegan, vorder, .bool false, .int .i64 0, .bool ends, vblock, .int .i64 away, .bool closed, .int .i64 bad]) :
  Calls Tryz.prog 49 #[Ptr p, .agg #[.int .i64 0, .int .i64 fl, .int .i64 st, S da, .int .i64 pad, .slice sa sn sc, .int .i64 code, .int .i64 la, .int .i64 inc, .int .i64 dep, .int .i64 wt, .bool sole, .bool xi, .int .i64 xc, .int .i64 xs]] w fun e w' => e = .returned (.int .i64 0) ∧ Blk w' p 97 #[vout, vin, .int .i64 all, .int .i64 beg, voff, vdec, .int .i64 frames, .int .i64 tab, .int .i64 sts, vpings, .int .i64 last, vbegan, vorder, .bool false, .int .i64 0, .bool ends, vblock, .int .i64 away, .bool closed, .int .i64 bad] ∧ But (fun k => k = p) w w' := by
 have y0 : w.cell? ⟨p, 0, none⟩ = some (vout) := h.cell 0
 have y1 : w.cell? ⟨p, 1, none⟩ = some (vin) := h.cell 1
 have y2 : w.cell? ⟨p, 2, none⟩ = some (.int .i64 all) := h.cell 2
 have y3 : w.cell? ⟨p, 3, none⟩ = some (.int .i64 beg) := h.cell 3
 have y4 : w.cell? ⟨p, 4, none⟩ = some (voff) := h.cell 4
 have y5 : w.cell? ⟨p, 5, none⟩ = some (vdec) := h.cell 5
 have y6 : w.cell? ⟨p, 6, none⟩ = some (.int .i64 frames) := h.cell 6
 have y7 : w.cell? ⟨p, 7, none⟩ = some (.int .i64 tab) := h.cell 7
 have y8 : w.cell? ⟨p, 8, none⟩ = some (.int .i64 sts) := h.cell 8
 have y9 : w.cell? ⟨p, 9, none⟩ = some (vpings) := h.cell 9
 have y10 : w.cell? ⟨p, 10, none⟩ = some (.int .i64 last) := h.cell 10
 have y11 : w.cell? ⟨p, 11, none⟩ = some (vbegan) := h.cell 11
 have y12 : w.cell? ⟨p, 12, none⟩ = some (vorder) := h.cell 12
 have y13 : w.cell? ⟨p, 13, none⟩ = some (.bool false) := h.cell 13
 have y14 : w.cell? ⟨p, 14, none⟩ = some (.int .i64 0) := h.cell 14
 have y15 : w.cell? ⟨p, 15, none⟩ = some (.bool ends) := h.cell 15
 have y16 : w.cell? ⟨p, 16, none⟩ = some (vblock) := h.cell 16
 have y17 : w.cell? ⟨p, 17, none⟩ = some (.int .i64 away) := h.cell 17
 have y18 : w.cell? ⟨p, 18, none⟩ = some (.bool closed) := h.cell 18
 have y19 : w.cell? ⟨p, 19, none⟩ = some (.int .i64 bad) := h.cell 19
 have hlt := h.lt
 have f13 := h.free 13
 go_enter Tryz.func49, Tryz.ntmps49
 go_upto_region 4 with fail
 refine wp_region_held_drew (S := (fun wx => wx.cell? ⟨p, 14, none⟩ = some (.int .i64 0))) (by kernel_rfl) (((h.alloc _).alloc _).drew.cell 14) (fun hHeld => ?_)
 refine wpAnyH_take (i := 0) (v := ?_) (by rfl) (by kernel_rfl) (by kernel_rfl) (by kernel_rfl) (by exact fun _ _ _ h => h) (Or.inl ⟨by rfl, ?_⟩) hHeld ?_
 rotate_left
 ·(intro w hSw;(try dsimp only at hSw);go_simp;try with_reducible rfl)
 simp only [Act.put, List.getElem_toArray, List.getElem_cons_succ, List.getElem_cons_zero, List.setIfInBounds_toArray, List.set_cons_zero, List.set_cons_succ]
 refine wpAnyH_take (i := 1) (v := ?_) (by rfl) (by kernel_rfl) (by kernel_rfl) (by kernel_rfl) (by exact fun _ _ _ h => h) (Or.inl ⟨by rfl, ?_⟩) hHeld ?_
 rotate_left
 ·(intro w hSw;(try dsimp only at hSw);go_simp;try with_reducible rfl)
 simp only [Act.put, List.getElem_toArray, List.getElem_cons_succ, List.getElem_cons_zero, List.setIfInBounds_toArray, List.set_cons_zero, List.set_cons_succ]
 refine wpAnyH_take (i := 2) (v := ?_) (by rfl) (by kernel_rfl) (by kernel_rfl) (by kernel_rfl) (by exact fun _ _ _ h => h) (Or.inl ⟨by rfl, ?_⟩) hHeld ?_
 rotate_left
 ·(intro w hSw;(try dsimp only at hSw);go_simp;try with_reducible rfl)
 simp only [Act.put, List.getElem_toArray, List.getElem_cons_succ, List.getElem_cons_zero, List.setIfInBounds_toArray, List.set_cons_zero, List.set_cons_succ]
 refine wpAnyH_take (i := 3) (v := ?_) (by rfl) (by kernel_rfl) (by kernel_rfl) (by kernel_rfl) (by exact fun _ _ _ h => h) (Or.inl ⟨by rfl, ?_⟩) hHeld ?_
 rotate_left
 ·(intro w hSw;(try dsimp only at hSw);go_simp;try with_reducible rfl)
 simp only [Act.put, List.getElem_toArray, List.getElem_cons_succ, List.getElem_cons_zero, List.setIfInBounds_toArray, List.set_cons_zero, List.set_cons_succ]
 refine wpAnyH_take (i := 4) (v := ?_) (by rfl) (by kernel_rfl) (by kernel_rfl) (by kernel_rfl) (by exact fun _ _ _ h => h) (Or.inl ⟨by rfl, ?_⟩) hHeld ?_
 rotate_left
 ·(intro w hSw;(try dsimp only at hSw);go_simp;try with_reducible rfl)
 simp only [Act.put, List.getElem_toArray, List.getElem_cons_succ, List.getElem_cons_zero, List.setIfInBounds_toArray, List.set_cons_zero, List.set_cons_succ]
 refine wpAnyH_take (i := 5) (v := ?_) (by rfl) (by kernel_rfl) (by kernel_rfl) (by kernel_rfl) (by exact fun _ _ _ h => h) (Or.inl ⟨by rfl, ?_⟩) hHeld ?_
 rotate_left
 ·(intro w hSw;(try dsimp only at hSw);go_simp;try with_reducible rfl)
 simp only [Act.put, List.getElem_toArray, List.getElem_cons_succ, List.getElem_cons_zero, List.setIfInBounds_toArray, List.set_cons_zero, List.set_cons_succ]
 refine wpAnyH_take (i := 6) (v := undef) (by rfl) (by kernel_rfl) (by kernel_rfl) (by kernel_rfl) (by exact fun _ _ _ h => h) (Or.inr ⟨by rfl, rfl⟩) hHeld ?_
 simp only [Act.put, List.getElem_toArray, List.getElem_cons_succ, List.getElem_cons_zero, List.setIfInBounds_toArray, List.set_cons_zero, List.set_cons_succ]
 refine wpAnyH_take (i := 7) (v := undef) (by rfl) (by kernel_rfl) (by kernel_rfl) (by kernel_rfl) (by exact fun _ _ _ h => h) (Or.inr ⟨by rfl, rfl⟩) hHeld ?_
 simp only [Act.put, List.getElem_toArray, List.getElem_cons_succ, List.getElem_cons_zero, List.setIfInBounds_toArray, List.set_cons_zero, List.set_cons_succ]
 refine wpAnyH_take (i := 8) (v := undef) (by rfl) (by kernel_rfl) (by kernel_rfl) (by kernel_rfl) (by exact fun _ _ _ h => h) (Or.inr ⟨by rfl, rfl⟩) hHeld ?_
 simp only [Act.put, List.getElem_toArray, List.getElem_cons_succ, List.getElem_cons_zero, List.setIfInBounds_toArray, List.set_cons_zero, List.set_cons_succ]
 refine wpAnyH_take (i := 9) (v := undef) (by rfl) (by kernel_rfl) (by kernel_rfl) (by kernel_rfl) (by exact fun _ _ _ h => h) (Or.inr ⟨by rfl, rfl⟩) hHeld ?_
 simp only [Act.put, List.getElem_toArray, List.getElem_cons_succ, List.getElem_cons_zero, List.setIfInBounds_toArray, List.set_cons_zero, List.set_cons_succ]
 refine wpAnyH_take (i := 10) (v := undef) (by rfl) (by kernel_rfl) (by kernel_rfl) (by kernel_rfl) (by exact fun _ _ _ h => h) (Or.inr ⟨by rfl, rfl⟩) hHeld ?_
 simp only [Act.put, List.getElem_toArray, List.getElem_cons_succ, List.getElem_cons_zero, List.setIfInBounds_toArray, List.set_cons_zero, List.set_cons_succ]
 refine wpAnyH_take (i := 11) (v := undef) (by rfl) (by kernel_rfl) (by kernel_rfl) (by kernel_rfl) (by exact fun _ _ _ h => h) (Or.inr ⟨by rfl, rfl⟩) hHeld ?_
 simp only [Act.put, List.getElem_toArray, List.getElem_cons_succ, List.getElem_cons_zero, List.setIfInBounds_toArray, List.set_cons_zero, List.set_cons_succ]
 refine wpAnyH_take (i := 12) (v := undef) (by rfl) (by kernel_rfl) (by kernel_rfl) (by kernel_rfl) (by exact fun _ _ _ h => h) (Or.inr ⟨by rfl, rfl⟩) hHeld ?_
 simp only [Act.put, List.getElem_toArray, List.getElem_cons_succ, List.getElem_cons_zero, List.setIfInBounds_toArray, List.set_cons_zero, List.set_cons_succ]
 refine wpAnyH_take (i := 13) (v := undef) (by rfl) (by kernel_rfl) (by kernel_rfl) (by kernel_rfl) (by exact fun _ _ _ h => h) (Or.inr ⟨by rfl, rfl⟩) hHeld ?_
 simp only [Act.put, List.getElem_toArray, List.getElem_cons_succ, List.getElem_cons_zero, List.setIfInBounds_toArray, List.set_cons_zero, List.set_cons_succ]
 refine wpAnyH_take (i := 14) (v := undef) (by rfl) (by kernel_rfl) (by kernel_rfl) (by kernel_rfl) (by exact fun _ _ _ h => h) (Or.inr ⟨by rfl, rfl⟩) hHeld ?_
 simp only [Act.put, List.getElem_toArray, List.getElem_cons_succ, List.getElem_cons_zero, List.setIfInBounds_toArray, List.set_cons_zero, List.set_cons_succ]
 refine wpAnyH_take (i := 15) (v := undef) (by rfl) (by kernel_rfl) (by kernel_rfl) (by kernel_rfl) (by exact fun _ _ _ h => h) (Or.inr ⟨by rfl, rfl⟩) hHeld ?_
 simp only [Act.put, List.getElem_toArray, List.getElem_cons_succ, List.getElem_cons_zero, List.setIfInBounds_toArray, List.set_cons_zero, List.set_cons_succ]
 refine wpAnyH_take (i := 16) (v := undef) (by rfl) (by kernel_rfl) (by kernel_rfl) (by kernel_rfl) (by exact fun _ _ _ h => h) (Or.inr ⟨by rfl, rfl⟩) hHeld ?_
 simp only [Act.put, List.getElem_toArray, List.getElem_cons_succ, List.getElem_cons_zero, List.setIfInBounds_toArray, List.set_cons_zero, List.set_cons_succ]
 refine wpAnyH_take (i := 17) (v := undef) (by rfl) (by kernel_rfl) (by kernel_rfl) (by kernel_rfl) (by exact fun _ _ _ h => h) (Or.inr ⟨by rfl, rfl⟩) hHeld ?_
 simp only [Act.put, List.getElem_toArray, List.getElem_cons_succ, List.getElem_cons_zero, List.setIfInBounds_toArray, List.set_cons_zero, List.set_cons_succ]
 refine wpAnyH_take (i := 18) (v := ?_) (by rfl) (by kernel_rfl) (by kernel_rfl) (by kernel_rfl) (by exact fun _ _ _ h => h) (Or.inl ⟨by rfl, ?_⟩) hHeld ?_
 rotate_left
 ·(intro w hSw;(try dsimp only at hSw);go_simp;try with_reducible rfl)
 simp only [Act.put, List.getElem_toArray, List.getElem_cons_succ, List.getElem_cons_zero, List.setIfInBounds_toArray, List.set_cons_zero, List.set_cons_succ]
 refine wpAnyH_take (i := 19) (v := ?_) (by rfl) (by kernel_rfl) (by kernel_rfl) (by kernel_rfl) (by exact fun _ _ _ h => h) (Or.inl ⟨by rfl, ?_⟩) hHeld ?_
 rotate_left
 ·(intro w hSw;(try dsimp only at hSw);go_simp;try with_reducible rfl)
 simp only [Act.put, List.getElem_toArray, List.getElem_cons_succ, List.getElem_cons_zero, List.setIfInBounds_toArray, List.set_cons_zero, List.set_cons_succ]
 try simp only [Act.put, List.getElem_toArray, List.getElem_cons_succ, List.getElem_cons_zero, List.setIfInBounds_toArray, List.set_cons_zero, List.set_cons_succ]
 refine wpAnyH_done (by kernel_rfl) ?_ _
 go_wp2
 go_ret
 exact ⟨rfl, (((h.set 13 _).alloc _).alloc _).drew, (((But.setCell (S := fun k => k = p) (But.refl _ w) (p := ⟨p, 13, none⟩) (.inl rfl) _).alloc _).alloc _).drew⟩
set_option maxRecDepth 100000 in
set_option maxHeartbeats 4000000 in
theorem length_set {st code la inc dep wt : Int} {sole : Bool} {sa : Option Addr} {sc : Nat} (w : World) :
  Calls Tryz.prog 85 #[.agg #[.int .i64 4, .int .i64 0, .int .i64 st, S [], .int .i64 0, .slice sa 0 sc, .int .i64 code, .int .i64 la, .int .i64 inc, .int .i64 dep, .int .i64 wt, .bool sole]] w fun e w' => e = .returned (.int .i64 0) ∧ Below w.heap.size w w' := by
 have b8 : bits .and .i64 0 8 = 0 := by decide
 go_enter Tryz.func85, Tryz.ntmps85
 go_wp2
 all_goals go_ret
 all_goals exact ⟨rfl, by repeat (first | (with_reducible exact Below.refl _ _) | (with_reducible refine Below.drew ?_) | ((with_reducible refine Below.alloc ?_ ?_ _);rotate_left;(first | omega | exact (by simp <;> omega))))⟩
set_option maxRecDepth 100000 in
set_option maxHeartbeats 4000000 in
theorem length_data {st code la inc dep wt : Int} {sole : Bool} {sa : Option Addr} {sc : Nat} (w : World) :
  Calls Tryz.prog 85 #[.agg #[.int .i64 0, .int .i64 0, .int .i64 st, S [], .int .i64 0, .slice sa 0 sc, .int .i64 code, .int .i64 la, .int .i64 inc, .int .i64 dep, .int .i64 wt, .bool sole]] w fun e w' => e = .returned (.int .i64 0) ∧ Below w.heap.size w w' := by
 have b8 : bits .and .i64 0 8 = 0 := by decide
 go_enter Tryz.func85, Tryz.ntmps85
 go_wp2
 all_goals go_ret
 all_goals exact ⟨rfl, by repeat (first | (with_reducible exact Below.refl _ _) | (with_reducible refine Below.drew ?_) | ((with_reducible refine Below.alloc ?_ ?_ _);rotate_left;(first | omega | exact (by simp <;> omega))))⟩
set_option maxRecDepth 100000 in
set_option maxHeartbeats 4000000 in
theorem formed_set {vout vin voff vdec vpings vbegan vorder vblock : Value} {all beg frames tab sts last of away bad : Int} {first ends closed : Bool} {p : Nat} {ty fl st pad code la inc dep wt xc xs : Int} {sole xi : Bool} {da : Bytes} {sa : Option Addr} {sn sc : Nat} (w : World) (h : Blk w p 97 #[vout, vin, .int .i64 all, .int .i64 beg, voff, vdec, .int .i64 16384, .int .i64 tab, .int .i64 sts, vpings, .int .i64 last, vbegan, vorder, .bool first, .int .i64 of, .bool ends, vblock, .int .i64 away, .bool closed, .int .i64 bad]) :
  Calls Tryz.prog 48 #[Ptr p, .agg #[.int .i64 4, .int .i64 0, .int .i64 st, S [], .int .i64 0, .slice sa 0 sc, .int .i64 code, .int .i64 la, .int .i64 inc, .int .i64 dep, .int .i64 wt, .bool sole, .bool false, .int .i64 xc, .int .i64 xs]] w fun e w' => e = .returned (.int .i64 0) ∧ Below w.heap.size w w' := by
 have y0 : w.cell? ⟨p, 0, none⟩ = some (vout) := h.cell 0
 have y1 : w.cell? ⟨p, 1, none⟩ = some (vin) := h.cell 1
 have y2 : w.cell? ⟨p, 2, none⟩ = some (.int .i64 all) := h.cell 2
 have y3 : w.cell? ⟨p, 3, none⟩ = some (.int .i64 beg) := h.cell 3
 have y4 : w.cell? ⟨p, 4, none⟩ = some (voff) := h.cell 4
 have y5 : w.cell? ⟨p, 5, none⟩ = some (vdec) := h.cell 5
 have y6 : w.cell? ⟨p, 6, none⟩ = some (.int .i64 16384) := h.cell 6
 have y7 : w.cell? ⟨p, 7, none⟩ = some (.int .i64 tab) := h.cell 7
 have y8 : w.cell? ⟨p, 8, none⟩ = some (.int .i64 sts) := h.cell 8
 have y9 : w.cell? ⟨p, 9, none⟩ = some (vpings) := h.cell 9
 have y10 : w.cell? ⟨p, 10, none⟩ = some (.int .i64 last) := h.cell 10
 have y11 : w.cell? ⟨p, 11, none⟩ = some (vbegan) := h.cell 11
 have y12 : w.cell? ⟨p, 12, none⟩ = some (vorder) := h.cell 12
 have y13 : w.cell? ⟨p, 13, none⟩ = some (.bool first) := h.cell 13
 have y14 : w.cell? ⟨p, 14, none⟩ = some (.int .i64 of) := h.cell 14
 have y15 : w.cell? ⟨p, 15, none⟩ = some (.bool ends) := h.cell 15
 have y16 : w.cell? ⟨p, 16, none⟩ = some (vblock) := h.cell 16
 have y17 : w.cell? ⟨p, 17, none⟩ = some (.int .i64 away) := h.cell 17
 have y18 : w.cell? ⟨p, 18, none⟩ = some (.bool closed) := h.cell 18
 have y19 : w.cell? ⟨p, 19, none⟩ = some (.int .i64 bad) := h.cell 19
 have hlt := h.lt
 have hp1 := (h.alloc (.cells #[.int .i64 4, .int .i64 0, .int .i64 st, S [], .int .i64 0, .slice sa 0 sc, .int .i64 code, .int .i64 la, .int .i64 inc, .int .i64 dep, .int .i64 wt, .bool sole, .bool false, .int .i64 xc, .int .i64 xs] 74)).drew
 have hi1 := (Blk.new w 74 #[.int .i64 4, .int .i64 0, .int .i64 st, S [], .int .i64 0, .slice sa 0 sc, .int .i64 code, .int .i64 la, .int .i64 inc, .int .i64 dep, .int .i64 wt, .bool sole, .bool false, .int .i64 xc, .int .i64 xs]).drew
 have hw1 := ((Below.refl w.heap.size w).alloc (Nat.le_refl _) (.cells #[.int .i64 4, .int .i64 0, .int .i64 st, S [], .int .i64 0, .slice sa 0 sc, .int .i64 code, .int .i64 la, .int .i64 inc, .int .i64 dep, .int .i64 wt, .bool sole, .bool false, .int .i64 xc, .int .i64 xs] 74)).drew
 go_enter Tryz.func48, Tryz.ntmps48
 go_upto_region 1 with fail
 refine wp_region_held_drew (S := (fun wx => wx.cell? ⟨w.heap.size, 0, none⟩ = some (.int .i64 4) ∧ wx.cell? ⟨w.heap.size, 1, none⟩ = some (.int .i64 0) ∧ wx.cell? ⟨w.heap.size, 2, none⟩ = some (.int .i64 st) ∧ wx.cell? ⟨w.heap.size, 3, none⟩ = some (S []) ∧ wx.cell? ⟨w.heap.size, 4, none⟩ = some (.int .i64 0) ∧ wx.cell? ⟨w.heap.size, 5, none⟩ = some (.slice sa 0 sc) ∧ wx.cell? ⟨w.heap.size, 6, none⟩ = some (.int .i64 code) ∧ wx.cell? ⟨w.heap.size, 7, none⟩ = some (.int .i64 la) ∧ wx.cell? ⟨w.heap.size, 8, none⟩ = some (.int .i64 inc) ∧ wx.cell? ⟨w.heap.size, 9, none⟩ = some (.int .i64 dep) ∧ wx.cell? ⟨w.heap.size, 10, none⟩ = some (.int .i64 wt) ∧ wx.cell? ⟨w.heap.size, 11, none⟩ = some (.bool sole) ∧ wx.cell? ⟨w.heap.size, 12, none⟩ = some (.bool false) ∧ wx.cell? ⟨p, 6, none⟩ = some (.int .i64 16384))) (by kernel_rfl) ⟨hi1.cell 0, hi1.cell 1, hi1.cell 2, hi1.cell 3, hi1.cell 4, hi1.cell 5, hi1.cell 6, hi1.cell 7, hi1.cell 8, hi1.cell 9, hi1.cell 10, hi1.cell 11, hi1.cell 12, hp1.cell 6⟩ (fun hHeld => ?_)
 refine wpAnyH_take (i := 0) (v := ?_) (by rfl) (by kernel_rfl) (by kernel_rfl) (by kernel_rfl) (by exact fun _ _ _ h => h) (Or.inl ⟨by rfl, ?_⟩) hHeld ?_
 rotate_left
 ·(intro w hSw;(try dsimp only at hSw);go_simp;try with_reducible rfl)
 simp only [Act.put, List.getElem_toArray, List.getElem_cons_succ, List.getElem_cons_zero, List.setIfInBounds_toArray, List.set_cons_zero, List.set_cons_succ]
 refine wpAnyH_take (i := 1) (v := ?_) (by rfl) (by kernel_rfl) (by kernel_rfl) (by kernel_rfl) (by exact fun _ _ _ h => h) (Or.inl ⟨by rfl, ?_⟩) hHeld ?_
 rotate_left
 ·(intro w hSw;(try dsimp only at hSw);go_simp;try with_reducible rfl)
 simp only [Act.put, List.getElem_toArray, List.getElem_cons_succ, List.getElem_cons_zero, List.setIfInBounds_toArray, List.set_cons_zero, List.set_cons_succ]
 refine wpAnyH_take (i := 2) (v := ?_) (by rfl) (by kernel_rfl) (by kernel_rfl) (by kernel_rfl) (by exact fun _ _ _ h => h) (Or.inl ⟨by rfl, ?_⟩) hHeld ?_
 rotate_left
 ·(intro w hSw;(try dsimp only at hSw);go_simp;try with_reducible rfl)
 simp only [Act.put, List.getElem_toArray, List.getElem_cons_succ, List.getElem_cons_zero, List.setIfInBounds_toArray, List.set_cons_zero, List.set_cons_succ]
 refine wpAnyH_take (i := 3) (v := ?_) (by rfl) (by kernel_rfl) (by kernel_rfl) (by kernel_rfl) (by exact fun _ _ _ h => h) (Or.inl ⟨by rfl, ?_⟩) hHeld ?_
 rotate_left
 ·(intro w hSw;(try dsimp only at hSw);go_simp;try with_reducible rfl)
 simp only [Act.put, List.getElem_toArray, List.getElem_cons_succ, List.getElem_cons_zero, List.setIfInBounds_toArray, List.set_cons_zero, List.set_cons_succ]
 refine wpAnyH_take (i := 4) (v := ?_) (by rfl) (by kernel_rfl) (by kernel_rfl) (by kernel_rfl) (by exact fun _ _ _ h => h) (Or.inl ⟨by rfl, ?_⟩) hHeld ?_
 rotate_left
 ·(intro w hSw;(try dsimp only at hSw);go_simp;try with_reducible rfl)
 simp only [Act.put, List.getElem_toArray, List.getElem_cons_succ, List.getElem_cons_zero, List.setIfInBounds_toArray, List.set_cons_zero, List.set_cons_succ]
 refine wpAnyH_take (i := 5) (v := ?_) (by rfl) (by kernel_rfl) (by kernel_rfl) (by kernel_rfl) (by exact fun _ _ _ h => h) (Or.inl ⟨by rfl, ?_⟩) hHeld ?_
 rotate_left
 ·(intro w hSw;(try dsimp only at hSw);go_simp;try with_reducible rfl)
 simp only [Act.put, List.getElem_toArray, List.getElem_cons_succ, List.getElem_cons_zero, List.setIfInBounds_toArray, List.set_cons_zero, List.set_cons_succ]
 refine wpAnyH_take (i := 7) (v := ?_) (by rfl) (by kernel_rfl) (by kernel_rfl) (by kernel_rfl) (by exact fun _ _ _ h => h) (Or.inl ⟨by rfl, ?_⟩) hHeld ?_
 rotate_left
 ·(intro w hSw;(try dsimp only at hSw);go_simp;try with_reducible rfl)
 simp only [Act.put, List.getElem_toArray, List.getElem_cons_succ, List.getElem_cons_zero, List.setIfInBounds_toArray, List.set_cons_zero, List.set_cons_succ]
 refine wpAnyH_take (i := 8) (v := ?_) (by rfl) (by kernel_rfl) (by kernel_rfl) (by kernel_rfl) (by exact fun _ _ _ h => h) (Or.inl ⟨by rfl, ?_⟩) hHeld ?_
 rotate_left
 ·(intro w hSw;(try dsimp only at hSw);go_simp;try with_reducible rfl)
 simp only [Act.put, List.getElem_toArray, List.getElem_cons_succ, List.getElem_cons_zero, List.setIfInBounds_toArray, List.set_cons_zero, List.set_cons_succ]
 refine wpAnyH_take (i := 9) (v := ?_) (by rfl) (by kernel_rfl) (by kernel_rfl) (by kernel_rfl) (by exact fun _ _ _ h => h) (Or.inl ⟨by rfl, ?_⟩) hHeld ?_
 rotate_left
 ·(intro w hSw;(try dsimp only at hSw);go_simp;try with_reducible rfl)
 simp only [Act.put, List.getElem_toArray, List.getElem_cons_succ, List.getElem_cons_zero, List.setIfInBounds_toArray, List.set_cons_zero, List.set_cons_succ]
 refine wpAnyH_take (i := 10) (v := ?_) (by rfl) (by kernel_rfl) (by kernel_rfl) (by kernel_rfl) (by exact fun _ _ _ h => h) (Or.inl ⟨by rfl, ?_⟩) hHeld ?_
 rotate_left
 ·(intro w hSw;(try dsimp only at hSw);go_simp;try with_reducible rfl)
 simp only [Act.put, List.getElem_toArray, List.getElem_cons_succ, List.getElem_cons_zero, List.setIfInBounds_toArray, List.set_cons_zero, List.set_cons_succ]
 refine wpAnyH_ready (rs := [6]) (by kernel_rfl) (by simp) ?_
 refine AllReadyH.cons (by rfl) (fun K hK => ?_) AllReadyH.nil
 go_simp
 (with_reducible refine (length_set _).mono ?_);rintro e w2 ⟨rfl, hb2⟩;have hp2 := hp1.on hb2;have hi2 := hi1.on hb2;have hw2 := hw1.trans (hb2.mono hw1.size)
 refine hK.out _ _ ⟨hi2.cell 0, hi2.cell 1, hi2.cell 2, hi2.cell 3, hi2.cell 4, hi2.cell 5, hi2.cell 6, hi2.cell 7, hi2.cell 8, hi2.cell 9, hi2.cell 10, hi2.cell 11, hi2.cell 12, hp2.cell 6⟩ (fun hHeld => ?_)
 clear hK K
 try simp only [Act.put, List.getElem_toArray, List.getElem_cons_succ, List.getElem_cons_zero, List.setIfInBounds_toArray, List.set_cons_zero, List.set_cons_succ]
 refine wpAnyH_take (i := 11) (v := ?_) (by rfl) (by kernel_rfl) (by kernel_rfl) (by kernel_rfl) (by exact fun _ _ _ h => h) (Or.inl ⟨by rfl, ?_⟩) hHeld ?_
 rotate_left
 ·(intro w hSw;(try dsimp only at hSw);go_simp;try with_reducible rfl)
 simp only [Act.put, List.getElem_toArray, List.getElem_cons_succ, List.getElem_cons_zero, List.setIfInBounds_toArray, List.set_cons_zero, List.set_cons_succ]
 refine wpAnyH_take (i := 12) (v := ?_) (by rfl) (by kernel_rfl) (by kernel_rfl) (by kernel_rfl) (by exact fun _ _ _ h => h) (Or.inl ⟨by rfl, ?_⟩) hHeld ?_
 rotate_left
 ·(intro w hSw;(try dsimp only at hSw);go_simp;try with_reducible rfl)
 simp only [Act.put, List.getElem_toArray, List.getElem_cons_succ, List.getElem_cons_zero, List.setIfInBounds_toArray, List.set_cons_zero, List.set_cons_succ]
 try simp only [Act.put, List.getElem_toArray, List.getElem_cons_succ, List.getElem_cons_zero, List.setIfInBounds_toArray, List.set_cons_zero, List.set_cons_succ]
 refine wpAnyH_done (by kernel_rfl) ?_ _
 go_wp2
 go_ret
 exact ⟨rfl, hw2⟩
set_option maxRecDepth 100000 in
set_option maxHeartbeats 4000000 in
theorem formed_data {vout vin voff vdec vpings vbegan vorder vblock : Value} {all beg frames tab sts last of away bad : Int} {first ends closed : Bool} {p : Nat} {ty fl st pad code la inc dep wt xc xs : Int} {sole xi : Bool} {da : Bytes} {sa : Option Addr} {sn sc : Nat} (w : World) (h : Blk w p 97 #[vout, vin, .int .i64 all, .int .i64 beg, voff, vdec, .int .i64 16384, .int .i64 tab, .int .i64 sts, vpings, .int .i64 last, vbegan, vorder, .bool first, .int .i64 of, .bool ends, vblock, .int .i64 away, .bool closed, .int .i64 bad]) :
  Calls Tryz.prog 48 #[Ptr p, .agg #[.int .i64 0, .int .i64 0, .int .i64 st, S [], .int .i64 0, .slice sa 0 sc, .int .i64 code, .int .i64 la, .int .i64 inc, .int .i64 dep, .int .i64 wt, .bool sole, .bool false, .int .i64 xc, .int .i64 xs]] w fun e w' => e = .returned (.int .i64 0) ∧ Below w.heap.size w w' := by
 have y0 : w.cell? ⟨p, 0, none⟩ = some (vout) := h.cell 0
 have y1 : w.cell? ⟨p, 1, none⟩ = some (vin) := h.cell 1
 have y2 : w.cell? ⟨p, 2, none⟩ = some (.int .i64 all) := h.cell 2
 have y3 : w.cell? ⟨p, 3, none⟩ = some (.int .i64 beg) := h.cell 3
 have y4 : w.cell? ⟨p, 4, none⟩ = some (voff) := h.cell 4
 have y5 : w.cell? ⟨p, 5, none⟩ = some (vdec) := h.cell 5
 have y6 : w.cell? ⟨p, 6, none⟩ = some (.int .i64 16384) := h.cell 6
 have y7 : w.cell? ⟨p, 7, none⟩ = some (.int .i64 tab) := h.cell 7
 have y8 : w.cell? ⟨p, 8, none⟩ = some (.int .i64 sts) := h.cell 8
 have y9 : w.cell? ⟨p, 9, none⟩ = some (vpings) := h.cell 9
 have y10 : w.cell? ⟨p, 10, none⟩ = some (.int .i64 last) := h.cell 10
 have y11 : w.cell? ⟨p, 11, none⟩ = some (vbegan) := h.cell 11
 have y12 : w.cell? ⟨p, 12, none⟩ = some (vorder) := h.cell 12
 have y13 : w.cell? ⟨p, 13, none⟩ = some (.bool first) := h.cell 13
 have y14 : w.cell? ⟨p, 14, none⟩ = some (.int .i64 of) := h.cell 14
 have y15 : w.cell? ⟨p, 15, none⟩ = some (.bool ends) := h.cell 15
 have y16 : w.cell? ⟨p, 16, none⟩ = some (vblock) := h.cell 16
 have y17 : w.cell? ⟨p, 17, none⟩ = some (.int .i64 away) := h.cell 17
 have y18 : w.cell? ⟨p, 18, none⟩ = some (.bool closed) := h.cell 18
 have y19 : w.cell? ⟨p, 19, none⟩ = some (.int .i64 bad) := h.cell 19
 have hlt := h.lt
 have hp1 := (h.alloc (.cells #[.int .i64 0, .int .i64 0, .int .i64 st, S [], .int .i64 0, .slice sa 0 sc, .int .i64 code, .int .i64 la, .int .i64 inc, .int .i64 dep, .int .i64 wt, .bool sole, .bool false, .int .i64 xc, .int .i64 xs] 74)).drew
 have hi1 := (Blk.new w 74 #[.int .i64 0, .int .i64 0, .int .i64 st, S [], .int .i64 0, .slice sa 0 sc, .int .i64 code, .int .i64 la, .int .i64 inc, .int .i64 dep, .int .i64 wt, .bool sole, .bool false, .int .i64 xc, .int .i64 xs]).drew
 have hw1 := ((Below.refl w.heap.size w).alloc (Nat.le_refl _) (.cells #[.int .i64 0, .int .i64 0, .int .i64 st, S [], .int .i64 0, .slice sa 0 sc, .int .i64 code, .int .i64 la, .int .i64 inc, .int .i64 dep, .int .i64 wt, .bool sole, .bool false, .int .i64 xc, .int .i64 xs] 74)).drew
 go_enter Tryz.func48, Tryz.ntmps48
 go_upto_region 1 with fail
 refine wp_region_held_drew (S := (fun wx => wx.cell? ⟨w.heap.size, 0, none⟩ = some (.int .i64 0) ∧ wx.cell? ⟨w.heap.size, 1, none⟩ = some (.int .i64 0) ∧ wx.cell? ⟨w.heap.size, 2, none⟩ = some (.int .i64 st) ∧ wx.cell? ⟨w.heap.size, 3, none⟩ = some (S []) ∧ wx.cell? ⟨w.heap.size, 4, none⟩ = some (.int .i64 0) ∧ wx.cell? ⟨w.heap.size, 5, none⟩ = some (.slice sa 0 sc) ∧ wx.cell? ⟨w.heap.size, 6, none⟩ = some (.int .i64 code) ∧ wx.cell? ⟨w.heap.size, 7, none⟩ = some (.int .i64 la) ∧ wx.cell? ⟨w.heap.size, 8, none⟩ = some (.int .i64 inc) ∧ wx.cell? ⟨w.heap.size, 9, none⟩ = some (.int .i64 dep) ∧ wx.cell? ⟨w.heap.size, 10, none⟩ = some (.int .i64 wt) ∧ wx.cell? ⟨w.heap.size, 11, none⟩ = some (.bool sole) ∧ wx.cell? ⟨w.heap.size, 12, none⟩ = some (.bool false) ∧ wx.cell? ⟨p, 6, none⟩ = some (.int .i64 16384))) (by kernel_rfl) ⟨hi1.cell 0, hi1.cell 1, hi1.cell 2, hi1.cell 3, hi1.cell 4, hi1.cell 5, hi1.cell 6, hi1.cell 7, hi1.cell 8, hi1.cell 9, hi1.cell 10, hi1.cell 11, hi1.cell 12, hp1.cell 6⟩ (fun hHeld => ?_)
 refine wpAnyH_take (i := 0) (v := ?_) (by rfl) (by kernel_rfl) (by kernel_rfl) (by kernel_rfl) (by exact fun _ _ _ h => h) (Or.inl ⟨by rfl, ?_⟩) hHeld ?_
 rotate_left
 ·(intro w hSw;(try dsimp only at hSw);go_simp;try with_reducible rfl)
 simp only [Act.put, List.getElem_toArray, List.getElem_cons_succ, List.getElem_cons_zero, List.setIfInBounds_toArray, List.set_cons_zero, List.set_cons_succ]
 refine wpAnyH_take (i := 1) (v := ?_) (by rfl) (by kernel_rfl) (by kernel_rfl) (by kernel_rfl) (by exact fun _ _ _ h => h) (Or.inl ⟨by rfl, ?_⟩) hHeld ?_
 rotate_left
 ·(intro w hSw;(try dsimp only at hSw);go_simp;try with_reducible rfl)
 simp only [Act.put, List.getElem_toArray, List.getElem_cons_succ, List.getElem_cons_zero, List.setIfInBounds_toArray, List.set_cons_zero, List.set_cons_succ]
 refine wpAnyH_take (i := 2) (v := ?_) (by rfl) (by kernel_rfl) (by kernel_rfl) (by kernel_rfl) (by exact fun _ _ _ h => h) (Or.inl ⟨by rfl, ?_⟩) hHeld ?_
 rotate_left
 ·(intro w hSw;(try dsimp only at hSw);go_simp;try with_reducible rfl)
 simp only [Act.put, List.getElem_toArray, List.getElem_cons_succ, List.getElem_cons_zero, List.setIfInBounds_toArray, List.set_cons_zero, List.set_cons_succ]
 refine wpAnyH_take (i := 3) (v := ?_) (by rfl) (by kernel_rfl) (by kernel_rfl) (by kernel_rfl) (by exact fun _ _ _ h => h) (Or.inl ⟨by rfl, ?_⟩) hHeld ?_
 rotate_left
 ·(intro w hSw;(try dsimp only at hSw);go_simp;try with_reducible rfl)
 simp only [Act.put, List.getElem_toArray, List.getElem_cons_succ, List.getElem_cons_zero, List.setIfInBounds_toArray, List.set_cons_zero, List.set_cons_succ]
 refine wpAnyH_take (i := 4) (v := ?_) (by rfl) (by kernel_rfl) (by kernel_rfl) (by kernel_rfl) (by exact fun _ _ _ h => h) (Or.inl ⟨by rfl, ?_⟩) hHeld ?_
 rotate_left
 ·(intro w hSw;(try dsimp only at hSw);go_simp;try with_reducible rfl)
 simp only [Act.put, List.getElem_toArray, List.getElem_cons_succ, List.getElem_cons_zero, List.setIfInBounds_toArray, List.set_cons_zero, List.set_cons_succ]
 refine wpAnyH_take (i := 5) (v := ?_) (by rfl) (by kernel_rfl) (by kernel_rfl) (by kernel_rfl) (by exact fun _ _ _ h => h) (Or.inl ⟨by rfl, ?_⟩) hHeld ?_
 rotate_left
 ·(intro w hSw;(try dsimp only at hSw);go_simp;try with_reducible rfl)
 simp only [Act.put, List.getElem_toArray, List.getElem_cons_succ, List.getElem_cons_zero, List.setIfInBounds_toArray, List.set_cons_zero, List.set_cons_succ]
 refine wpAnyH_take (i := 7) (v := ?_) (by rfl) (by kernel_rfl) (by kernel_rfl) (by kernel_rfl) (by exact fun _ _ _ h => h) (Or.inl ⟨by rfl, ?_⟩) hHeld ?_
 rotate_left
 ·(intro w hSw;(try dsimp only at hSw);go_simp;try with_reducible rfl)
 simp only [Act.put, List.getElem_toArray, List.getElem_cons_succ, List.getElem_cons_zero, List.setIfInBounds_toArray, List.set_cons_zero, List.set_cons_succ]
 refine wpAnyH_take (i := 8) (v := ?_) (by rfl) (by kernel_rfl) (by kernel_rfl) (by kernel_rfl) (by exact fun _ _ _ h => h) (Or.inl ⟨by rfl, ?_⟩) hHeld ?_
 rotate_left
 ·(intro w hSw;(try dsimp only at hSw);go_simp;try with_reducible rfl)
 simp only [Act.put, List.getElem_toArray, List.getElem_cons_succ, List.getElem_cons_zero, List.setIfInBounds_toArray, List.set_cons_zero, List.set_cons_succ]
 refine wpAnyH_take (i := 9) (v := ?_) (by rfl) (by kernel_rfl) (by kernel_rfl) (by kernel_rfl) (by exact fun _ _ _ h => h) (Or.inl ⟨by rfl, ?_⟩) hHeld ?_
 rotate_left
 ·(intro w hSw;(try dsimp only at hSw);go_simp;try with_reducible rfl)
 simp only [Act.put, List.getElem_toArray, List.getElem_cons_succ, List.getElem_cons_zero, List.setIfInBounds_toArray, List.set_cons_zero, List.set_cons_succ]
 refine wpAnyH_take (i := 10) (v := ?_) (by rfl) (by kernel_rfl) (by kernel_rfl) (by kernel_rfl) (by exact fun _ _ _ h => h) (Or.inl ⟨by rfl, ?_⟩) hHeld ?_
 rotate_left
 ·(intro w hSw;(try dsimp only at hSw);go_simp;try with_reducible rfl)
 simp only [Act.put, List.getElem_toArray, List.getElem_cons_succ, List.getElem_cons_zero, List.setIfInBounds_toArray, List.set_cons_zero, List.set_cons_succ]
 refine wpAnyH_ready (rs := [6]) (by kernel_rfl) (by simp) ?_
 refine AllReadyH.cons (by rfl) (fun K hK => ?_) AllReadyH.nil
 go_simp
 (with_reducible refine (length_data _).mono ?_);rintro e w2 ⟨rfl, hb2⟩;have hp2 := hp1.on hb2;have hi2 := hi1.on hb2;have hw2 := hw1.trans (hb2.mono hw1.size)
 refine hK.out _ _ ⟨hi2.cell 0, hi2.cell 1, hi2.cell 2, hi2.cell 3, hi2.cell 4, hi2.cell 5, hi2.cell 6, hi2.cell 7, hi2.cell 8, hi2.cell 9, hi2.cell 10, hi2.cell 11, hi2.cell 12, hp2.cell 6⟩ (fun hHeld => ?_)
 clear hK K
 try simp only [Act.put, List.getElem_toArray, List.getElem_cons_succ, List.getElem_cons_zero, List.setIfInBounds_toArray, List.set_cons_zero, List.set_cons_succ]
 refine wpAnyH_take (i := 11) (v := ?_) (by rfl) (by kernel_rfl) (by kernel_rfl) (by kernel_rfl) (by exact fun _ _ _ h => h) (Or.inl ⟨by rfl, ?_⟩) hHeld ?_
 rotate_left
 ·(intro w hSw;(try dsimp only at hSw);go_simp;try with_reducible rfl)
 simp only [Act.put, List.getElem_toArray, List.getElem_cons_succ, List.getElem_cons_zero, List.setIfInBounds_toArray, List.set_cons_zero, List.set_cons_succ]
 refine wpAnyH_take (i := 12) (v := ?_) (by rfl) (by kernel_rfl) (by kernel_rfl) (by kernel_rfl) (by exact fun _ _ _ h => h) (Or.inl ⟨by rfl, ?_⟩) hHeld ?_
 rotate_left
 ·(intro w hSw;(try dsimp only at hSw);go_simp;try with_reducible rfl)
 simp only [Act.put, List.getElem_toArray, List.getElem_cons_succ, List.getElem_cons_zero, List.setIfInBounds_toArray, List.set_cons_zero, List.set_cons_succ]
 try simp only [Act.put, List.getElem_toArray, List.getElem_cons_succ, List.getElem_cons_zero, List.setIfInBounds_toArray, List.set_cons_zero, List.set_cons_succ]
 refine wpAnyH_done (by kernel_rfl) ?_ _
 go_wp2
 go_ret
 exact ⟨rfl, hw2⟩
end Go.Proofs.YtkeeofhjdffhbaaGreatDoor
