
/- The walks of hpack for a block of one byte: the field is put; the part; the block. -/
import Derived.Test.YtmbakobindjjmaaGreatDoorHpk1
import Derived.Test.YtmbakobindjjmaaGreatDoorFrm4
namespace Go.Proofs.YtmbakobindjjmaaGreatDoor
open Go.RowKit Go.Dr

abbrev stat8 : Array Value := #[S [58, 115, 116, 97, 116, 117, 115], S [50, 48, 48], .bool false]
set_option maxRecDepth 100000 in
set_option maxHeartbeats 4000000 in
theorem Put_first {r : Nat} {v dv hv : Value} (w : World) (hR : Blk w r 141 #[dv, v, .slice none 0 0, .int .i64 0, hv]) :
    Calls Tryz.prog 78 #[Ptr r, .agg stat8] w fun e w' => e = .returned (.tuple #[]) ∧ ∃ a c, Blk w' r 141 #[dv, v, .slice a 1 c, .int .i64 42, hv] ∧ w'.ownsRow w.heap.size 38 3 (.slice a 1 c) 1 stat8.toList ∧ But (fun k => k = r) w w' := by
  obtain ⟨W, eW⟩ : ∃ W, W = w.alloc (.cells stat8 38) := ⟨_, rfl⟩
  have hb : Below w.heap.size w W := by rw [eW]; exact (Below.refl _ _).alloc (Nat.le_refl _) _
  have hF : Blk W w.heap.size 38 stat8 := by rw [eW]; exact Blk.new _ _ _
  have hz : w.heap.size < W.heap.size := hF.lt
  have hRW := hR.on hb
  have hrl := hR.lt
  have n1 : w.heap.size ≠ r := by omega
  have y3 : W.cell? ⟨r, 3, none⟩ = some (.int .i64 0) := hRW.cell 3
  have f3 := hRW.free 3
  have g0 : W.cell? ⟨w.heap.size, 0, none⟩ = some (S [58, 115, 116, 97, 116, 117, 115]) := hF.cell 0
  have g1 : W.cell? ⟨w.heap.size, 1, none⟩ = some (S [50, 48, 48]) := hF.cell 1
  obtain ⟨W2, eW2⟩ : ∃ W2, W2 = (W.setCell ⟨r, 3, none⟩ (.int .i64 42)).drew := ⟨_, rfl⟩
  have hR2 : Blk W2 r 141 #[dv, v, .slice none 0 0, .int .i64 42, hv] := by rw [eW2]; exact (hRW.set 3 _).drew
  have hF2 : Blk W2 w.heap.size 38 stat8 := by rw [eW2]; exact (hF.other n1 _).drew
  have hu2 : But (fun k => k = r) w W2 := by rw [eW2]; exact ((But.of_below (S := fun k => k = r) hb).setCell (p := ⟨r, 3, none⟩) (.inl rfl) _).drew
  have hz2 : w.heap.size < W2.heap.size := hF2.lt
  have x2 : W2.cell? ⟨r, 2, none⟩ = some (.slice none 0 0) := hR2.cell 2
  have x2a : ∀ ob, (W2.alloc ob).cell? ⟨r, 2, none⟩ = some (.slice none 0 0) := fun ob => (hR2.alloc ob).cell 2
  have k0 : W2.cell? ⟨w.heap.size, 0, none⟩ = some (S [58, 115, 116, 97, 116, 117, 115]) := hF2.cell 0
  have k1 : W2.cell? ⟨w.heap.size, 1, none⟩ = some (S [50, 48, 48]) := hF2.cell 1
  have k2 : W2.cell? ⟨w.heap.size, 2, none⟩ = some (.bool false) := hF2.cell 2
  go_enter Tryz.func78, Tryz.ntmps78
  go_upto_region 1 with fail
  rw [← eW]
  clear eW
  go_region
  go_upto_region 2 with fail
  rw [← eW2]
  clear eW2
  go_region_law (refine step_of ?_ (by rfl); refine wp_appG _ _ 39 rfl w.heap.size 38 (.agg #[.string ByteArray.empty, .string ByteArray.empty, .bool false]) 3 40 Tryz.underlying39 (by kernel_rfl) rfl (by decide) _ _ _ rfl (World.ownsRow_nil _ _ _ _) _ _ _ stat8.toList rfl (Rd.drew (Rd.lit W2 38 stat8 3 1 rfl (by decide))) (by intro u hu; simp [stat8] at hu; rcases hu with rfl | rfl | rfl <;> rfl) (by decide) (by decide) (by simp; omega) ?_; intro a3 c3 w3 hown3 hb3 hg3; have hR3 := (hR2.alloc (.cells stat8 38)).drew.below hb3 hrl; have z2 : w3.cell? ⟨r, 2, none⟩ = some (.slice none 0 0) := hR3.cell 2; have zf := hR3.free 2)
  all_goals (
    go_wp2
    go_end0
    exact ⟨rfl, a3, c3, hR3.set 2 _, ownsRow_setCell_below hown3 hrl _, (but_on ((hu2.alloc _).drew) hb3).setCell (p := ⟨r, 2, none⟩) (.inl rfl) _⟩)

set_option maxRecDepth 100000 in
set_option maxHeartbeats 4000000 in
theorem Part_one {r d t B : Nat} {v hv : Value} (w : World) (hR : Blk w r 141 #[Ptr d, v, .slice none 0 0, .int .i64 0, hv]) (h : By B w v [136]) (h2 : w.cell? ⟨d, 2, none⟩ = some (Ptr t)) (hd : d < w.heap.size) (hdr : d ≠ r) :
    Calls Tryz.prog 66 #[Ptr r] w fun e w' => e = .returned (.tuple #[]) ∧ ∃ a c a' c', Blk w' r 141 #[Ptr d, .slice a' 0 c', .slice a 1 c, .int .i64 42, hv] ∧ w'.ownsRow w.heap.size 38 3 (.slice a 1 c) 1 stat8.toList ∧ But (fun k => k = r) w w' := by
  have hN := Number_one w hR h
  have hrl := hR.lt
  obtain ⟨av, cv, rfl, hcv, hcm⟩ := h.form
  obtain ⟨b, off, rfl, hb, x0⟩ := h.at 0 (by decide)
  have x1 : w.cell? ⟨b, off, none⟩ = some (.int .u8 136) := x0
  have y1 : w.cell? ⟨r, 1, none⟩ = some (.slice (some ⟨b, off, none⟩) [136].length cv) := hR.cell 1
  clear x0 h
  go_enter Tryz.func66, Tryz.ntmps66
  go_wp2_with first
    | (go_at_call 80; (with_reducible refine hN.mono ?_); rintro e w2 ⟨rfl, ⟨a2, c2, hR2⟩, hb2⟩; have p0 : w2.cell? ⟨r, 0, none⟩ = some (Ptr d) := hR2.cell 0; have p2 : w2.cell? ⟨d, 2, none⟩ = some (Ptr t) := (by simp only [World.cell?, hb2.block d hd hdr] at h2 ⊢; exact h2); have hRow := Row_eight w2 p0 p2 hR2.lt (Nat.lt_of_lt_of_le hd hb2.size))
    | (go_at_call 79; (with_reducible refine hRow.mono ?_); rintro e w3 ⟨rfl, hb3⟩; have hR3 := hR2.on hb3; have hPut := Put_first w3 hR3)
    | (go_at_call 78; (with_reducible refine hPut.mono ?_); rintro e w4 ⟨rfl, a4, c4, hR4, ho4, hb4⟩)
  go_end0
  exact ⟨rfl, a4, c4, a2, c2, hR4, own_base ho4 (Nat.le_trans hb2.size hb3.size), (hb2.trans (But.of_below hb3)).trans hb4⟩
end Go.Proofs.YtmbakobindjjmaaGreatDoor
