/- Parts of the proof of pt_root: the texts Law24a. -/
import Derived.Test.YtkeeofhjdffhbaaGreatDoorT15
import Derived.Test.YtkeeofhjdffhbaaGreatDoorT17
set_option linter.unusedSimpArgs false
set_option linter.unusedVariables false
set_option linter.unnecessarySimpa false
namespace Go.Proofs.YtkeeofhjdffhbaaGreatDoor
open Go.RowKit Go.Dr
theorem Closed_any {p fo fi o d m : Nat} {first : Bool} {away bad : Int} (w : World) (h : Pr w p fo fi o d m first away bad) :
  Calls Tryz.prog 15 #[Ptr p] w fun e w' => e = .returned (.bool false) ∧ w' = w := by
 have y : w.cell? ⟨p, 16, none⟩ = some (.slice none 0 0) := h.blk.cell 16
 have y2 : w.cell? ⟨p, 18, none⟩ = some (.bool false) := h.blk.cell 18
 go_enter Tryz.func15, Tryz.ntmps15
 go_wp2
 go_ret
 exact ⟨rfl, rfl⟩
theorem Peer0.pr {w : World} {B p : Nat} {first : Bool} {away bad : Int} (h : Peer0 w B p first away bad) : ∃ fo fi m o d, B ≤ fo ∧ B ≤ fi ∧ B ≤ m ∧ B ≤ o ∧ B ≤ p ∧ Pr w p fo fi o d m first away bad := by
 obtain ⟨fo, fi, m, o, d, h1, h2, h3, h4, h5, h6, h7, h8, h9, h10, h11, h12⟩ := h.ex
 exact ⟨fo, fi, m, o, d, h1, h2, h3, h4, h6, h8, h9, h7, h10, h11, h12⟩
theorem Pr.on {w w' : World} {p fo fi o d m : Nat} {first : Bool} {away bad : Int} (h : Pr w p fo fi o d m first away bad) (hb : Below w.heap.size w w') : Pr w' p fo fi o d m first away bad :=
 ⟨h.out.on hb, h.feed.on hb, h.ne, obj_below h.began hb (lt_of_block h.began), obj_below h.off hb (lt_of_block h.off), h.blk.on hb⟩
theorem Pr.butn {w w' : World} {p fo fi o d m p' fi' : Nat} {first : Bool} {away bad : Int} (h : Pr w p fo fi o d m first away bad) (hb : But (fun g => g = p' ∨ g = fi') w w') (hne : ∀ k, (k = fo ∨ k = fi ∨ k = m ∨ k = o ∨ k = p) → ¬ (k = p' ∨ k = fi')) : Pr w' p fo fi o d m first away bad := by
 have hS : ∀ {k : Nat} {ob : Obj}, (k = fo ∨ k = fi ∨ k = m ∨ k = o ∨ k = p) → w.heap[k]? = some ob → w'.heap[k]? = some ob := fun {k ob} hk ho => (hb.block k (lt_of_block ho) (hne k hk)).trans ho
 exact ⟨hS (by omega) h.out, hS (by omega) h.feed, h.ne, hS (by omega) h.began, hS (by omega) h.off, hS (by omega) h.blk⟩
theorem own_pr {w w' : World} {p fo fi o d m base n : Nat} {v : Value} {xs : List Value} {first : Bool} {away bad : Int} (h : w.ownsRow base 5 1 v n xs) (hP : Pr w p fo fi o d m first away bad) (hb : But (fun g => g = p ∨ g = fi) w w') : w'.ownsRow base 5 1 v n xs :=
 own_but h hb fun g cur hg e => by
  rcases e with e | e
  ·have h5 := blk_type (e ▸ hg) hP.blk
   revert h5
   decide
  ·have h5 := blk_type (e ▸ hg) hP.feed
   revert h5
   decide
set_option maxRecDepth 100000 in
set_option maxHeartbeats 8000000 in
theorem awake24_any (w : World) : Calls Tryz.prog 6 #[] w fun e w' => e = .returned (.bool true) ∧ Below w.heap.size w w' := by
 have hS := fun w => put_Set0 w
 have hD := fun w => put_DatE w
 go_enter Tryz.func6, Tryz.ntmps6
 go_wp2_with first
  | (go_at_call 7;(with_reducible refine (PeerNew_any _).mono ?_);first
   | (have hb2' := hb2;rintro e w4 ⟨q, rfl, hb4, hQ4⟩;obtain ⟨fo, fi, m, o, d, b1, b2, b3, b4, b5, hP1⟩ := hP1.pr;have l1 := hP1.blk.lt;have l2 := hP1.feed.lt;have l3 := hP1.out.lt;have l4 := lt_of_block hP1.began;have l5 := lt_of_block hP1.off;have z1 := hb1.size;have z2 := hb2.size;have z3 := hb3.size;have z4 := hb4.size;have hP4 := ((hP1.on hb2).on hb3).on hb4;have sr4 := own_below (own_below hs2 hb3) hb4;have dr4 := own_below hd3 hb4;obtain ⟨qo, qi, qm, qf, qd, c1, c2, c3, c4, c5, hQ4⟩ := hQ4.pr)
   | (rintro e w1 ⟨p, rfl, hb1, hP1⟩))
  | (go_at_call 8;(with_reducible refine (hS _).mono ?_);rintro e w2 ⟨vs, rfl, hs2, hb2⟩)
  | (go_at_call 8;(with_reducible refine (hD _).mono ?_);rintro e w3 ⟨vd, rfl, hd3, hb3⟩)
  | (go_at_call 13;first
   | (have hBy : By w7.heap.size w7 vd [0, 0, 0, 0, 0, 0, 0, 0, 1] := Rd.own dr7;(with_reducible refine (Got_d0 vd w7 hQ7 hBy).mono ?_);rintro e w8 ⟨rfl, hb8, hQ8⟩;have hP8 := hP7.butn hb8 (by intro k hk he;omega))
   | (have hBy : By w6.heap.size w6 vs [0, 0, 0, 4, 0, 0, 0, 0, 0] := Rd.own sr6;(with_reducible refine (Got_s1 vs w6 hP6 hBy).mono ?_);rintro e w7 ⟨rfl, hb7, hP7⟩;have dr7 := own_pr dr6 hP6 hb7;have hQ7 := hQ6.butn hb7 (by intro k hk he;omega))
   | (have hBy : By w5.heap.size w5 vd [0, 0, 0, 0, 0, 0, 0, 0, 1] := Rd.own dr5;(with_reducible refine (Got_d1 vd w5 hP5 hBy).mono ?_);rintro e w6 ⟨rfl, hb6, hP6⟩;have sr6 := own_pr sr5 hP5 hb6;have dr6 := own_pr dr5 hP5 hb6;have hQ6 := hQ5.butn hb6 (by intro k hk he;omega))
   | (have hBy : By w4.heap.size w4 vs [0, 0, 0, 4, 0, 0, 0, 0, 0] := Rd.own sr4;(with_reducible refine (Got_s0 vs w4 hP4 hBy).mono ?_);rintro e w5 ⟨rfl, hb5, hP5⟩;have sr5 := own_pr sr4 hP4 hb5;have dr5 := own_pr dr4 hP4 hb5;have hQ5 := hQ4.butn hb5 (by intro k hk he;omega)))
  | (go_at_call 15;(with_reducible refine (Closed_any _ hP8).mono ?_);rintro e w9 ⟨rfl, rfl⟩)
 go_ret
 have hB : ∀ {a b : World} {p fi : Nat}, But (fun g => g = p ∨ g = fi) a b → w.heap.size ≤ p → w.heap.size ≤ fi → w.heap.size ≤ a.heap.size → Below w.heap.size a b := fun h h1 h2 h3 => h.below (fun k hk => by omega) h3
 have y5 := hb5.size
 have y6 := hb6.size
 have y7 := hb7.size
 exact ⟨rfl, ((((((hb1.trans (hb2.mono z1)).trans (hb3.mono (by omega))).trans (hb4.mono (by omega))).trans (hB hb5 b5 b2 (by omega))).trans (hB hb6 b5 b2 (by omega))).trans (hB hb7 b5 b2 (by omega))).trans (hB hb8 (by omega) (by omega) (by omega))⟩
end Go.Proofs.YtkeeofhjdffhbaaGreatDoor
