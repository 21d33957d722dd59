
/- The walks of layer 19, first part: a link leaves. -/
import Derived.Test.YtnflihjgbkocnaaDoorProg
import Derived.Test.YtnflihjgbkocnaaDoorRing
import Derived.Deep.RegionHeld3
namespace Go.Proofs.YtnflihjgbkocnaaDoor
open Go.RowKit Go.Dr

set_option linter.unusedSimpArgs false in
set_option linter.unusedVariables false in
set_option linter.unnecessarySimpa false in
set_option maxRecDepth 100000 in
set_option maxHeartbeats 2000000 in
theorem out_any (L p q : Nat) (u v : Value) (w : World) (h9 : w.cell? ⟨L, 9, none⟩ = some (Ptr p)) (h10 : w.cell? ⟨L, 10, none⟩ = some (Ptr q)) (hp : p ≠ L) (hq : q ≠ L)
    (k10 : w.cell? ⟨p, 10, none⟩ = some u) (f10 : w.frozen? ⟨p, 10, none⟩ = false) (k9 : w.cell? ⟨q, 9, none⟩ = some v) (f9 : w.frozen? ⟨q, 9, none⟩ = false) :
    Calls Tryd.prog 30 #[Ptr L] w fun e w' => e = .returned (.tuple #[]) ∧ w' = ((w.setCell ⟨p, 10, none⟩ (Ptr q)).setCell ⟨q, 9, none⟩ (Ptr p)).drew := by
  have hp' : ¬ p = L := hp
  have hq' : ¬ q = L := hq
  have hp2 : ¬ L = p := fun e => hp e.symm
  have hq2 : ¬ L = q := fun e => hq e.symm
  have s9 : (w.setCell ⟨p, 10, none⟩ (Ptr q)).cell? ⟨q, 9, none⟩ = some v := by
    rw [World.cell?_setCell_other _ _ _ _ (by intro e; cases e)]; exact k9
  go_enter Tryd.func30, Tryd.ntmps30
  go_wp2_with fail
  go_region_held3 (fun w' => w'.cell? ⟨L, 9, none⟩ = some (Ptr p) ∧ w'.cell? ⟨L, 10, none⟩ = some (Ptr q))
    (first | go_keep)
    (fail)
  all_goals
    go_wp2
    go_end0
    exact ⟨rfl, rfl⟩

set_option linter.unusedSimpArgs false in
set_option linter.unnecessarySimpa false in
set_option linter.unusedVariables false in
/-- A link is laid at the end of the ring. -/
theorem used_any (s L R a : Nat) (u v x y : Value) (w : World) (c3 : w.cell? ⟨s, 3, none⟩ = some (Ptr R)) (r9 : w.cell? ⟨R, 9, none⟩ = some (Ptr a)) (fr9 : w.frozen? ⟨R, 9, none⟩ = false)
    (l9 : w.cell? ⟨L, 9, none⟩ = some u) (fl9 : w.frozen? ⟨L, 9, none⟩ = false) (l10 : w.cell? ⟨L, 10, none⟩ = some v) (fl10 : w.frozen? ⟨L, 10, none⟩ = false) (a10 : w.cell? ⟨a, 10, none⟩ = some x) (fa10 : w.frozen? ⟨a, 10, none⟩ = false)
    (hs : s ≠ L) (hR : R ≠ L) (ha : a ≠ L) (hsa : s ≠ a) (hsR : s ≠ R) :
    Calls Tryd.prog 31 #[Ptr s, Ptr L] w fun e w' => e = .returned (.tuple #[]) ∧ w' = ((((w.setCell ⟨L, 9, none⟩ (Ptr a)).setCell ⟨L, 10, none⟩ (Ptr R)).setCell ⟨a, 10, none⟩ (Ptr L)).setCell ⟨R, 9, none⟩ (Ptr L)).drew := by
  have n1 : ¬ s = L := hs
  have n2 : ¬ R = L := hR
  have n3 : ¬ a = L := ha
  have n4 : ¬ L = s := fun e => hs e.symm
  have n5 : ¬ L = R := fun e => hR e.symm
  have n6 : ¬ L = a := fun e => ha e.symm
  have b10 : (w.setCell ⟨L, 9, none⟩ (Ptr a)).cell? ⟨L, 10, none⟩ = some v := by rw [World.cell?_setCell_other _ _ _ _ (by intro e; cases e)]; exact l10
  obtain ⟨w2, ew⟩ : ∃ w2 : World, w2 = ((w.setCell ⟨L, 9, none⟩ (Ptr a)).setCell ⟨L, 10, none⟩ (Ptr R)).drew := ⟨_, rfl⟩
  have far : ∀ (b o : Nat) (z : Value), b ≠ L → w.cell? ⟨b, o, none⟩ = some z → w2.cell? ⟨b, o, none⟩ = some z := fun b o z hb h => by
    rw [ew]
    show (((w.setCell ⟨L, 9, none⟩ (Ptr a)).setCell ⟨L, 10, none⟩ (Ptr R))).cell? ⟨b, o, none⟩ = some z
    rw [World.cell?_setCell_other _ _ _ _ (by intro e; cases e; exact hb rfl), World.cell?_setCell_other _ _ _ _ (by intro e; cases e; exact hb rfl)]
    exact h
  have d3 := far s 3 _ hs c3
  have d9 := far R 9 _ hR r9
  have d10 := far a 10 _ ha a10
  have g10 : w2.frozen? ⟨a, 10, none⟩ = false := by rw [ew]; simpa using fa10
  have g9 : (w2.setCell ⟨a, 10, none⟩ (Ptr L)).frozen? ⟨R, 9, none⟩ = false := by rw [ew]; simpa using fr9
  have e3 : (w2.setCell ⟨a, 10, none⟩ (Ptr L)).cell? ⟨s, 3, none⟩ = some (Ptr R) := by rw [World.cell?_setCell_other _ _ _ _ (by intro e; cases e)]; exact d3
  have e9 : (w2.setCell ⟨a, 10, none⟩ (Ptr L)).cell? ⟨R, 9, none⟩ = some (Ptr a) := by rw [World.cell?_setCell_other _ _ _ _ (by intro e; cases e)]; exact d9
  have HW := Lib.hid ew
  go_enter Tryd.func31, Tryd.ntmps31
  go_wp2_with fail
  go_region_held3 (fun w' => w'.cell? ⟨s, 3, none⟩ = some (Ptr R) ∧ w'.cell? ⟨R, 9, none⟩ = some (Ptr a))
    (first | go_keep)
    (fail)
  all_goals
    rw [← HW.out]
    go_wp2
    go_end0
    exact ⟨rfl, rfl⟩
end Go.Proofs.YtnflihjgbkocnaaDoor
