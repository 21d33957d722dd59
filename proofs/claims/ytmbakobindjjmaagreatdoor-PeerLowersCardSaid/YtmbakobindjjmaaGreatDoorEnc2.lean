
/- The walk of the document's encoder for one field of the fixed table: it is found. -/
import Derived.Test.YtmbakobindjjmaaGreatDoorEnc1
namespace Go.Proofs.YtmbakobindjjmaaGreatDoor
open Go.RowKit Go.Dr

theorem own_cell {w : World} {base : Nat} {e : TypeId} {size n c : Nat} {a : Option Addr} {xs : List Value} (h : w.ownsRow base e size (.slice a n c) n xs) (hn : 0 < n) : ∃ g, a = some ⟨g, 0, none⟩ ∧ ∀ (j : Nat) (u : Value), xs[j]? = some u → w.cell? ⟨g, j, none⟩ = some u := by
  rcases h.2 with ⟨-, h0⟩ | ⟨g, cap, cur, hv, -, hg, -, -, -, ht⟩
  · omega
  · simp only [Value.slice.injEq] at hv
    refine ⟨g, hv.1, fun j u hu => ?_⟩
    have hj : j < n * size := by rw [← h.1]; exact (List.getElem?_eq_some_iff.1 hu).1
    simp only [World.cell?, hg]
    rw [← ht, List.getElem?_take_of_lt hj] at hu
    simpa using hu

set_option maxRecDepth 100000 in
set_option maxHeartbeats 4000000 in
theorem rFind_eight {eb : Nat} {c0 c1 c2 c3 : Value} (w : World) (hE : Blk w eb 80 #[c0, c1, c2, c3, .slice none 0 0]) :
    Calls Tryz.prog 25 #[.pointer (some ⟨eb, 3, none⟩), .agg stat8] w fun e w' => e = .returned (.tuple #[.int .i64 8, .bool true]) ∧ Below w.heap.size w w' := by
  obtain ⟨W, eW⟩ : ∃ W, W = w.alloc (.cells stat8 38) := ⟨_, rfl⟩
  have hb : Below w.heap.size w W := by rw [eW]; exact (Below.refl _ _).alloc (Nat.le_refl _) _
  have hF : Blk W w.heap.size 38 stat8 := by rw [eW]; exact Blk.new _ _ _
  have hEW := hE.on hb
  have hWl := hF.lt
  have x4 : W.cell? ⟨eb, 4, none⟩ = some (.slice none 0 0) := hEW.cell 4
  have x4a : ∀ ob, (W.alloc ob).cell? ⟨eb, 4, none⟩ = some (.slice none 0 0) := fun ob => (hEW.alloc ob).cell 4
  have hO : (W.drew.alloc (.cells refC 38)).ownsRow W.heap.size 38 3 (.slice (some ⟨W.drew.heap.size, 0, none⟩) 61 61) 61 refC.toList := World.ownsRow_lit (base := W.heap.size) (e := 38) (size := 3) W.drew refC 61 (Nat.le_refl _) (by decide) (by kernel_rfl)
  go_enter Tryz.func25, Tryz.ntmps25
  go_upto_region 1 with fail
  rw [← eW]
  clear eW
  go_region_law (first
    | (go_simp; go_at_call 48; (with_reducible refine (rStatic _).mono ?_); rintro e w2 ⟨rfl, hw2⟩)
    | (refine step_of ?_ (by rfl); refine wp_appG _ _ 39 rfl W.heap.size 38 (.agg #[.string ByteArray.empty, .string ByteArray.empty, .bool false]) 3 40 Tryz.underlying39 (by kernel_rfl) rfl (by decide) _ _ _ rfl hO _ _ _ [] rfl (Rd.nil 0 _ 3) (by simp) (by decide) (by decide) (by simp) ?_; intro a3 c3 w3 hown3 hb3 hg3))
  all_goals (
    have hF3 : Blk w3 w.heap.size 38 stat8 := Blk.below (hF.alloc _).drew hb3 hWl
    obtain ⟨g, rfl, hc⟩ := own_cell hown3 (by decide)
    have m0 : w3.cell? ⟨g, 0, none⟩ = some (S [58, 97, 117, 116, 104, 111, 114, 105, 116, 121]) := hc 0 _ (by kernel_rfl)
    have m1 : w3.cell? ⟨g, 3, none⟩ = some (S [58, 109, 101, 116, 104, 111, 100]) := hc 3 _ (by kernel_rfl)
    have m2 : w3.cell? ⟨g, 6, none⟩ = some (S [58, 109, 101, 116, 104, 111, 100]) := hc 6 _ (by kernel_rfl)
    have m3 : w3.cell? ⟨g, 9, none⟩ = some (S [58, 112, 97, 116, 104]) := hc 9 _ (by kernel_rfl)
    have m4 : w3.cell? ⟨g, 12, none⟩ = some (S [58, 112, 97, 116, 104]) := hc 12 _ (by kernel_rfl)
    have m5 : w3.cell? ⟨g, 15, none⟩ = some (S [58, 115, 99, 104, 101, 109, 101]) := hc 15 _ (by kernel_rfl)
    have m6 : w3.cell? ⟨g, 18, none⟩ = some (S [58, 115, 99, 104, 101, 109, 101]) := hc 18 _ (by kernel_rfl)
    have m7 : w3.cell? ⟨g, 21, none⟩ = some (S [58, 115, 116, 97, 116, 117, 115]) := hc 21 _ (by kernel_rfl)
    have m8 : w3.cell? ⟨g, 22, none⟩ = some (S [50, 48, 48]) := hc 22 _ (by kernel_rfl)
    have k0 : w3.cell? ⟨w.heap.size, 0, none⟩ = some (S [58, 115, 116, 97, 116, 117, 115]) := hF3.cell 0
    have k1 : w3.cell? ⟨w.heap.size, 1, none⟩ = some (S [50, 48, 48]) := hF3.cell 1
    have hb03 : Below w.heap.size w w3 := (hb.alloc hb.size _).drew.trans (hb3.mono hb.size)
    clear hc hown3 hO x4a x4 hE hEW hg3 hw2 hF
    go_wp2
    refine wp_loop_rounds 9 ?_
    iterate 7 (
      rw [rounds_succ]
      go_wp2
      go_region
      go_wp2)
    rw [rounds_succ]
    go_wp2
    go_region
    go_wp2
    go_region
    go_wp2
    go_ret2
    exact ⟨rfl, hb03.drew.drew.drew.drew.drew.drew.drew.drew.drew⟩)
end Go.Proofs.YtmbakobindjjmaaGreatDoor
