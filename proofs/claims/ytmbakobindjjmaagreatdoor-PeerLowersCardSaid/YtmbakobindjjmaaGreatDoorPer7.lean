
/- The walk of what a head says: the decoder's rows, the peer's answer. -/
import Derived.Test.YtmbakobindjjmaaGreatDoorPer6
import Derived.Test.YtmbakobindjjmaaGreatDoorRda2
import Derived.Test.YtmbakobindjjmaaGreatDoorHpk3
namespace Go.Proofs.YtmbakobindjjmaaGreatDoor
open Go.RowKit Go.Dr

set_option maxRecDepth 100000 in
set_option maxHeartbeats 4000000 in
theorem Len_none {t : Nat} (w : World) (h : w.cell? ⟨t, 2, none⟩ = some (.slice none 0 0)) : Calls Tryz.prog 95 #[Ptr t] w fun e w' => e = .returned (.int .i64 0) ∧ w' = w := by
  go_enter Tryz.func95, Tryz.ntmps95
  go_wp2
  go_ret
  exact ⟨rfl, rfl⟩

set_option maxRecDepth 100000 in
set_option maxHeartbeats 4000000 in
theorem rowsOf_none {t : Nat} (w : World) (h : w.cell? ⟨t, 2, none⟩ = some (.slice none 0 0)) : Calls Tryz.prog 84 #[Ptr t] w fun e w' => e = .returned (.slice none 0 0) ∧ w' = w := by
  have hL := Len_none w h
  go_enter Tryz.func84, Tryz.ntmps84
  go_wp2
  refine wp_loop_rounds 1 ?_
  rw [rounds_succ]
  go_wp2
  go_ret
  exact ⟨rfl, rfl⟩

set_option maxRecDepth 100000 in
set_option maxHeartbeats 4000000 in
theorem Rows_none {d t : Nat} (w : World) (hd : w.cell? ⟨d, 2, none⟩ = some (Ptr t)) (h : w.cell? ⟨t, 2, none⟩ = some (.slice none 0 0)) : Calls Tryz.prog 67 #[Ptr d] w fun e w' => e = .returned (.slice none 0 0) ∧ w' = w := by
  have hL := rowsOf_none w h
  go_enter Tryz.func67, Tryz.ntmps67
  go_wp2_with (go_at_call 84; (with_reducible refine hL.mono ?_); rintro e w2 ⟨rfl, rfl⟩)
  go_ret
  exact ⟨rfl, rfl⟩

set_option maxRecDepth 100000 in
set_option maxHeartbeats 4000000 in
theorem rows_none {p d t : Nat} (w : World) (hp : w.cell? ⟨p, 5, none⟩ = some (Ptr d)) (hd : w.cell? ⟨d, 2, none⟩ = some (Ptr t)) (h : w.cell? ⟨t, 2, none⟩ = some (.slice none 0 0)) : Calls Tryz.prog 56 #[Ptr p] w fun e w' => e = .returned (.int .i64 0) ∧ w' = w := by
  have hL := Rows_none w hd h
  go_enter Tryz.func56, Tryz.ntmps56
  go_wp2_with (go_at_call 67; (with_reducible refine hL.mono ?_); rintro e w2 ⟨rfl, rfl⟩)
  refine wp_loop_rounds 1 ?_
  rw [rounds_succ]
  go_wp2
  go_ret
  exact ⟨rfl, rfl⟩

/-- what is told of a stream whose answer began -/
def sd0 : Array Value := #[.int .i64 1, .int .i64 0, .slice none 0 0, S [], .bool false, .bool false, .int .i64 0, .int .i64 0, .int .i64 0, .bool false]
def sd1 (b : Bytes) (ends : Bool) : Array Value := #[.int .i64 1, .int .i64 200, .slice none 0 0, S b, .bool ends, .bool false, .int .i64 0, .int .i64 1, .int .i64 0, .bool false]

set_option maxRecDepth 100000 in
set_option maxHeartbeats 4000000 in
theorem says_stat {p s B c : Nat} {a : Option Addr} {ps : Array Value} {ends : Bool} (w : World) (hP : Blk w p 67 ps) (h12 : ps[12]? = some (.slice none 0 0)) (h15 : ps[15]? = some (.bool ends)) (hS : Blk w s 92 sd0) (hps : s ≠ p) (hpB : p < B) (hsB : s < B) (h : w.ownsRow B 38 3 (.slice a 1 c) 1 stat8.toList) :
    Calls Tryz.prog 57 #[Ptr p, Ptr s, .slice a 1 c] w fun e w' => e = .returned (.int .i64 0) ∧ (∃ a' c', Blk w' p 67 (ps.setIfInBounds 12 (.slice a' 1 c')) ∧ w'.ownsRow w.heap.size 3 1 (.slice a' 1 c') 1 [.int .i64 1]) ∧ Blk w' s 92 (sd1 [] ends) ∧ But (fun k => k = p ∨ k = s) w w' := by
  have y7 : w.cell? ⟨s, 7, none⟩ = some (.int .i64 0) := hS.cell 7
  have f7 := hS.free 7
  have h1 := ownsRow_setCell_below (a := ⟨s, 7, none⟩) h hsB (.int .i64 1)
  have hS1 := hS.set 7 (.int .i64 1)
  have hP1 := hP.other (p := ⟨s, 7, none⟩) (fun e => hps e.symm) (.int .i64 1)
  have hb1 : But (fun k => k = p ∨ k = s) w (w.setCell ⟨s, 7, none⟩ (.int .i64 1)) := (But.refl _ _).setCell (p := ⟨s, 7, none⟩) (.inl (.inr rfl)) _
  have y7' : (w.setCell ⟨s, 7, none⟩ (.int .i64 1)).cell? ⟨s, 7, none⟩ = some (.int .i64 1) := hS1.cell 7
  obtain ⟨W1, eW1⟩ : ∃ W1, W1 = w.setCell ⟨s, 7, none⟩ (.int .i64 1) := ⟨_, rfl⟩
  rw [← eW1] at h1 hS1 hP1 hb1 y7'
  have hR := ReadAnswer_stat W1 h1
  go_enter Tryz.func57, Tryz.ntmps57
  go_upto_region 2 with fail
  rw [← eW1]
  clear eW1
  go_upto_region 13 with first
    | (go_at_call 69; (with_reducible refine hR.mono ?_); rintro e w2 ⟨rfl, hb2⟩; have hS2 := hS1.on hb2; have hP2 := hP1.on hb2; have c1 : w2.cell? ⟨s, 1, none⟩ = some (.int .i64 0) := hS2.cell 1; have c2 : w2.cell? ⟨s, 2, none⟩ = some (.slice none 0 0) := hS2.cell 2; have c4 : w2.cell? ⟨s, 4, none⟩ = some (.bool false) := hS2.cell 4; have c8 : w2.cell? ⟨s, 8, none⟩ = some (.int .i64 0) := hS2.cell 8; have c9 : w2.cell? ⟨s, 9, none⟩ = some (.bool false) := hS2.cell 9; have f1 := hS2.free 1; have f2 := hS2.free 2; have f4 := hS2.free 4; have f8 := hS2.free 8; have f9 := hS2.free 9; have c15 : w2.cell? ⟨p, 15, none⟩ = some (.bool ends) := (hP2.cell 15).trans h15)
    | (go_at_call 70; (with_reducible refine (Length_nil _).mono ?_); rintro e w3 ⟨rfl, rfl⟩)
  have hb3 : But (fun k => k = p ∨ k = s) w (((((w2.setCell ⟨s, 1, none⟩ (.int .i64 200)).setCell ⟨s, 2, none⟩ (.slice none 0 0)).setCell ⟨s, 4, none⟩ (.bool ends)).setCell ⟨s, 8, none⟩ (.int .i64 0)).setCell ⟨s, 9, none⟩ (.bool false)) := (((((hb1.trans (But.of_below hb2)).setCell (p := ⟨s, 1, none⟩) (.inl (.inr rfl)) _).setCell (p := ⟨s, 2, none⟩) (.inl (.inr rfl)) _).setCell (p := ⟨s, 4, none⟩) (.inl (.inr rfl)) _).setCell (p := ⟨s, 8, none⟩) (.inl (.inr rfl)) _).setCell (p := ⟨s, 9, none⟩) (.inl (.inr rfl)) _
  have hS3 : Blk (((((w2.setCell ⟨s, 1, none⟩ (.int .i64 200)).setCell ⟨s, 2, none⟩ (.slice none 0 0)).setCell ⟨s, 4, none⟩ (.bool ends)).setCell ⟨s, 8, none⟩ (.int .i64 0)).setCell ⟨s, 9, none⟩ (.bool false)) s 92 (sd1 [] ends) := ((((hS2.set 1 _).set 2 _).set 4 _).set 8 _).set 9 _
  have hP3 : Blk (((((w2.setCell ⟨s, 1, none⟩ (.int .i64 200)).setCell ⟨s, 2, none⟩ (.slice none 0 0)).setCell ⟨s, 4, none⟩ (.bool ends)).setCell ⟨s, 8, none⟩ (.int .i64 0)).setCell ⟨s, 9, none⟩ (.bool false)) p 67 ps := ((((hP2.other (p := ⟨s, 1, none⟩) (fun e => hps e.symm) _).other (p := ⟨s, 2, none⟩) (fun e => hps e.symm) _).other (p := ⟨s, 4, none⟩) (fun e => hps e.symm) _).other (p := ⟨s, 8, none⟩) (fun e => hps e.symm) _).other (p := ⟨s, 9, none⟩) (fun e => hps e.symm) _
  obtain ⟨W3, eW3⟩ : ∃ W3, W3 = ((((w2.setCell ⟨s, 1, none⟩ (.int .i64 200)).setCell ⟨s, 2, none⟩ (.slice none 0 0)).setCell ⟨s, 4, none⟩ (.bool ends)).setCell ⟨s, 8, none⟩ (.int .i64 0)).setCell ⟨s, 9, none⟩ (.bool false) := ⟨_, rfl⟩
  rw [← eW3] at hb3 hS3 hP3 ⊢
  clear eW3 c1 c2 c4 c8 c9 f1 f2 f4 f8 f9 c15 hS2 hP2 hb2 hR h1 hS1 hP1 hb1 y7' y7 f7
  have x12 : W3.cell? ⟨p, 12, none⟩ = some (.slice none 0 0) := (hP3.cell 12).trans h12
  have x12a : ∀ ob, (W3.alloc ob).cell? ⟨p, 12, none⟩ = some (.slice none 0 0) := fun ob => ((hP3.alloc ob).cell 12).trans h12
  have z0 : W3.cell? ⟨s, 0, none⟩ = some (.int .i64 1) := hS3.cell 0
  have hpl : p < W3.heap.size := hP3.lt
  have hsl : s < W3.heap.size := hS3.lt
  have hwz := hb3.size
  have hwp := hP.lt
  go_region_law (refine step_of ?_ (by rfl); refine wp_appG _ _ 65 rfl w.heap.size 3 (.int .i64 0) 1 8 Tryz.underlying65 (by kernel_rfl) rfl (by decide) _ _ _ rfl (World.ownsRow_nil _ _ _ _) _ _ _ [.int .i64 1] rfl (Rd.drew (Rd.lit W3 3 #[.int .i64 1] 1 1 rfl (by decide))) (by intro u hu; simp at hu; subst hu; rfl) (by decide) (by decide) (by simp; omega) ?_; intro a3 c3 w4 hown3 hb4 hg4; have hP4 := (hP3.alloc (.cells #[.int .i64 1] 3)).drew.below hb4 hwp; have z12 : w4.cell? ⟨p, 12, none⟩ = some (.slice none 0 0) := (hP4.cell 12).trans h12; have zf := hP4.free 12)
  all_goals (
    go_wp2
    go_ret
    exact ⟨rfl, ⟨a3, c3, hP4.set 12 _, ownsRow_setCell_below hown3 hwp _⟩, ((((hS3.alloc _).drew).below hb4 (hS.lt))).other (p := ⟨p, 12, none⟩) hps _, (but_on ((hb3.alloc _).drew) hb4).setCell (p := ⟨p, 12, none⟩) (.inl (.inl rfl)) _⟩)
end Go.Proofs.YtmbakobindjjmaaGreatDoor
