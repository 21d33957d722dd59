
/- The walk of the document's numbers as bytes. -/
import Derived.Test.YtmbakobindjjmaaGreatDoorFrm1
namespace Go.Proofs.YtmbakobindjjmaaGreatDoor
open Go.RowKit Go.Dr

/-- a number as so many bytes, the greatest first -/
def beP (n k : Nat) : Bytes := ([n / 16777216, n / 65536, n / 256, n].map UInt8.ofNat).drop (4 - k)
theorem b8_of (n : Nat) : B8 (UInt8.ofNat n) = .int .u8 ((n : Int) % 256) := by simp [B8]
theorem beP_length (n k : Nat) (h : k ≤ 4) : (beP n k).length = k := by simp [beP]; omega
theorem beP_b8 (n k : Nat) (hn : n < 4294967296) : (beP n k).map B8 = [.int .u8 ((n : Int) / 16777216), .int .u8 ((n : Int) / 65536 % 256), .int .u8 ((n : Int) / 256 % 256), .int .u8 ((n : Int) % 256)].drop (4 - k) := by
  have h : (n : Int) / 16777216 % 256 = (n : Int) / 16777216 := by omega
  simp only [beP, List.map_drop, List.map_cons, List.map_nil, b8_of]
  simp [h]
theorem rd_lit4 (w : World) (t : TypeId) (a b c d : Value) (k : Nat) (hk : k ≤ 4) : Rd (w.heap.size + 1) (w.alloc (.cells #[a, b, c, d] t)) 1 (.slice (some ⟨w.heap.size, k, none⟩) (4 - k) (4 - k)) (4 - k) ([a, b, c, d].drop k) := by
  have h := (Rd.lit w t #[a, b, c, d] 1 4 rfl (by decide)).from hk
  simpa using h

set_option maxRecDepth 100000 in
set_option maxHeartbeats 4000000 in
theorem rPut2 (n : Nat) (hn : n < 4294967296) (w : World) : Calls Tryz.prog 40 #[.int .u32 (n : Int), .int .i64 2] w fun e w' => ∃ v, e = .returned v ∧ w'.ownsRow w.heap.size 5 1 v 2 ((beP n 2).map B8) ∧ Below w.heap.size w w' := by
  have hS := (rd_lit4 w 5 (.int .u8 ((n : Int) / 16777216)) (.int .u8 ((n : Int) / 65536 % 256)) (.int .u8 ((n : Int) / 256 % 256)) (.int .u8 ((n : Int) % 256)) 2 (by decide)).below ((Below.refl (w.heap.size + 1) _).alloc (by simp) (.cells #[] 5))
  go_enter Tryz.func40, Tryz.ntmps40
  go_wp2_with (at_builtin; refine wpList_appRd rfl _ _ 28 rfl w.heap.size 5 (.int .u8 0) 1 1 Tryz.underlying28 (by kernel_rfl) rfl (by decide) _ _ _ rfl (own_lit _ (w.heap.size + 1) (by simp) w.heap.size (by simp) _ _) _ _ _ _ rfl hS (by intro u hu; simp at hu; rcases hu with rfl | rfl <;> rfl) (by decide) (by decide) (by simp; omega) ?_; intro a1 c1 w1 hown1 hb1)
  go_ret
  refine ⟨_, rfl, ?_, (((Below.refl _ _).alloc (Nat.le_refl _) _).alloc (by simp) _).trans hb1⟩
  rw [beP_b8 n 2 hn]
  exact hown1
set_option maxRecDepth 100000 in
set_option maxHeartbeats 4000000 in
theorem rPut3 (n : Nat) (hn : n < 4294967296) (w : World) : Calls Tryz.prog 40 #[.int .u32 (n : Int), .int .i64 3] w fun e w' => ∃ v, e = .returned v ∧ w'.ownsRow w.heap.size 5 1 v 3 ((beP n 3).map B8) ∧ Below w.heap.size w w' := by
  have hS := (rd_lit4 w 5 (.int .u8 ((n : Int) / 16777216)) (.int .u8 ((n : Int) / 65536 % 256)) (.int .u8 ((n : Int) / 256 % 256)) (.int .u8 ((n : Int) % 256)) 1 (by decide)).below ((Below.refl (w.heap.size + 1) _).alloc (by simp) (.cells #[] 5))
  go_enter Tryz.func40, Tryz.ntmps40
  go_wp2_with (at_builtin; refine wpList_appRd rfl _ _ 28 rfl w.heap.size 5 (.int .u8 0) 1 1 Tryz.underlying28 (by kernel_rfl) rfl (by decide) _ _ _ rfl (own_lit _ (w.heap.size + 1) (by simp) w.heap.size (by simp) _ _) _ _ _ _ rfl hS (by intro u hu; simp at hu; rcases hu with rfl | rfl | rfl <;> rfl) (by decide) (by decide) (by simp; omega) ?_; intro a1 c1 w1 hown1 hb1)
  go_ret
  refine ⟨_, rfl, ?_, (((Below.refl _ _).alloc (Nat.le_refl _) _).alloc (by simp) _).trans hb1⟩
  rw [beP_b8 n 3 hn]
  exact hown1
set_option maxRecDepth 100000 in
set_option maxHeartbeats 4000000 in
theorem rPut4 (n : Nat) (hn : n < 4294967296) (w : World) : Calls Tryz.prog 40 #[.int .u32 (n : Int), .int .i64 4] w fun e w' => ∃ v, e = .returned v ∧ w'.ownsRow w.heap.size 5 1 v 4 ((beP n 4).map B8) ∧ Below w.heap.size w w' := by
  have hS := (rd_lit4 w 5 (.int .u8 ((n : Int) / 16777216)) (.int .u8 ((n : Int) / 65536 % 256)) (.int .u8 ((n : Int) / 256 % 256)) (.int .u8 ((n : Int) % 256)) 0 (by decide)).below ((Below.refl (w.heap.size + 1) _).alloc (by simp) (.cells #[] 5))
  go_enter Tryz.func40, Tryz.ntmps40
  go_wp2_with (at_builtin; refine wpList_appRd rfl _ _ 28 rfl w.heap.size 5 (.int .u8 0) 1 1 Tryz.underlying28 (by kernel_rfl) rfl (by decide) _ _ _ rfl (own_lit _ (w.heap.size + 1) (by simp) w.heap.size (by simp) _ _) _ _ _ _ rfl hS (by intro u hu; simp at hu; rcases hu with rfl | rfl | rfl | rfl <;> rfl) (by decide) (by decide) (by simp; omega) ?_; intro a1 c1 w1 hown1 hb1)
  go_ret
  refine ⟨_, rfl, ?_, (((Below.refl _ _).alloc (Nat.le_refl _) _).alloc (by simp) _).trans hb1⟩
  rw [beP_b8 n 4 hn]
  exact hown1


/-- 'four' -/
theorem rFour (n : Nat) (hn : n < 4294967296) (w : World) : Calls Tryz.prog 41 #[.int .i64 (n : Int)] w fun e w' => ∃ v, e = .returned v ∧ w'.ownsRow w.heap.size 5 1 v 4 ((beP n 4).map B8) ∧ Below w.heap.size w w' := by
  have hc : (n : Int) % 4294967296 = (n : Int) := by omega
  go_enter Tryz.func41, Tryz.ntmps41
  go_wp2_with (go_at_call 40; refine (rPut4 n hn _).mono ?_; rintro e w3 ⟨v, rfl, hown, hb⟩)
  go_ret
  exact ⟨_, rfl, hown, hb⟩
end Go.Proofs.YtmbakobindjjmaaGreatDoor
