
/- The walk of the document's encoder for one field of the fixed table. -/
import Derived.Test.YtmbakobindjjmaaGreatDoorEnc2
namespace Go.Proofs.YtmbakobindjjmaaGreatDoor
open Go.RowKit Go.Dr

abbrev enc0 : Array Value := #[.int .i64 4096, .int .i64 4096, .int .i64 4096, .int .i64 4096, .slice none 0 0]
set_option maxRecDepth 100000 in
set_option maxHeartbeats 8000000 in
theorem rEncode_one {eb sb : Nat} (w : World) (hE : Blk w eb 80 enc0) (hS : Blk w sb 38 stat8) (hes : eb ≠ sb) :
    Calls Tryz.prog 13 #[Ptr eb, .slice (some ⟨sb, 0, none⟩) 1 1] w fun e w' => ∃ v, e = .returned v ∧ w'.ownsRow w.heap.size 5 1 v 1 [.int .u8 136] ∧ But (fun k => k = eb) w w' := by
  have y1 : w.cell? ⟨eb, 1, none⟩ = some (.int .i64 4096) := hE.cell 1
  have y2 : w.cell? ⟨eb, 2, none⟩ = some (.int .i64 4096) := hE.cell 2
  have y3 : w.cell? ⟨eb, 3, none⟩ = some (.int .i64 4096) := hE.cell 3
  have f1 := hE.free 1
  have f2 := hE.free 2
  obtain ⟨W, eW⟩ : ∃ W, W = ((w.setCell ⟨eb, 1, none⟩ (.int .i64 4096)).setCell ⟨eb, 2, none⟩ (.int .i64 4096)).drew := ⟨_, rfl⟩
  have hEW : Blk W eb 80 enc0 := by rw [eW]; exact ((hE.set 1 (.int .i64 4096)).set 2 (.int .i64 4096)).drew
  have hSW : Blk W sb 38 stat8 := by rw [eW]; exact ((hS.other (p := ⟨eb, 1, none⟩) hes.symm _).other (p := ⟨eb, 2, none⟩) hes.symm _).drew
  have hu : But (fun k => k = eb) w W := by rw [eW]; exact (((But.refl (fun k => k = eb) w).setCell (p := ⟨eb, 1, none⟩) (.inl rfl) _).setCell (p := ⟨eb, 2, none⟩) (.inl rfl) _).drew
  obtain ⟨W1, eW1⟩ : ∃ W1, W1 = W.alloc (.cells stat8 38) := ⟨_, rfl⟩
  have hb1 : Below W.heap.size W W1 := by rw [eW1]; exact (Below.refl _ _).alloc (Nat.le_refl _) _
  have hF1 : Blk W1 W.heap.size 38 stat8 := by rw [eW1]; exact Blk.new _ _ _
  have hE1 := hEW.on hb1
  have s0 : W.cell? ⟨sb, 0, none⟩ = some (S [58, 115, 116, 97, 116, 117, 115]) := hSW.cell 0
  have s1 : W.cell? ⟨sb, 1, none⟩ = some (S [50, 48, 48]) := hSW.cell 1
  have s2 : W.cell? ⟨sb, 2, none⟩ = some (.bool false) := hSW.cell 2
  have k0 : W1.cell? ⟨W.heap.size, 0, none⟩ = some (S [58, 115, 116, 97, 116, 117, 115]) := hF1.cell 0
  have k1 : W1.cell? ⟨W.heap.size, 1, none⟩ = some (S [50, 48, 48]) := hF1.cell 1
  have k2 : W1.cell? ⟨W.heap.size, 2, none⟩ = some (.bool false) := hF1.cell 2
  have hFi := rFind_eight W1.drew hE1.drew
  go_enter Tryz.func13, Tryz.ntmps13
  go_upto_region 3 with fail
  go_region
  go_upto_region 10 with fail
  rw [← eW]
  clear eW
  go_wp2
  refine wp_loop_rounds 2 ?_
  rw [rounds_succ]
  go_upto_region 14 with fail
  rw [← eW1]
  clear eW1
  go_region_with (go_at_call 25; (with_reducible refine hFi.mono ?_); rintro e w2 ⟨rfl, hb2⟩)
  all_goals (
    have hF2 : Blk w2 W.heap.size 38 stat8 := hF1.drew.on hb2
    have q0 : w2.cell? ⟨W.heap.size, 0, none⟩ = some (S [58, 115, 116, 97, 116, 117, 115]) := hF2.cell 0
    have q2 : w2.cell? ⟨W.heap.size, 2, none⟩ = some (.bool false) := hF2.cell 2
    have hu2 : But (fun k => k = eb) w w2 := (hu.trans (But.of_below hb1)).trans (But.undrew (But.of_below (w := W1.drew) hb2))
    go_wp2_with first
      | (go_at_call 24; (with_reducible refine (rPutInt_eight _).mono ?_); rintro e w3 ⟨v3, rfl, hv3, hb3⟩; obtain ⟨a3, c3, rfl⟩ := own_form hv3)
      | (at_builtin; refine wpList_appRd rfl _ _ 28 rfl w2.heap.size 5 (.int .u8 0) 1 1 Tryz.underlying28 (by kernel_rfl) rfl (by decide) _ _ _ rfl (World.ownsRow_nil _ _ _ _) _ _ _ _ rfl (Rd.own hv3) (by intro u hu; simp at hu; subst hu; rfl) (by decide) (by decide) hb3.size ?_; intro a4 c4 w4 hv4 hb4)
    rw [rounds_succ]
    go_wp2
    go_ret
    exact ⟨_, rfl, own_base hv4 hu2.size, hu2.trans (But.of_below (hb3.trans hb4))⟩)
end Go.Proofs.YtmbakobindjjmaaGreatDoor
