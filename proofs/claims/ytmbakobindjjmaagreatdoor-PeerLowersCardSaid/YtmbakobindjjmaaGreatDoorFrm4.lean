
/- The walk of frame.open at settings. -/
import Derived.Test.YtmbakobindjjmaaGreatDoorFrm3
import Derived.Deep.RegionLaw
namespace Go.Proofs.YtmbakobindjjmaaGreatDoor
open Go.RowKit Go.Dr

theorem own_form {w : World} {base : Nat} {e : TypeId} {size : Nat} {v : Value} {n : Nat} {xs : List Value} (h : w.ownsRow base e size v n xs) : ∃ a c, v = .slice a n c := by
  rcases h.2 with ⟨rfl, h0⟩ | ⟨g, cap, cur, rfl, _⟩
  · exact ⟨none, 0, by rw [h0]⟩
  · exact ⟨_, _, rfl⟩

theorem but_on {S : Nat → Prop} {a b c : World} (h : But S a b) (k : Below a.heap.size b c) : But S a c :=
  ⟨k.os.trans h.os, k.tape.trans h.tape, k.output.trans h.output, Nat.le_trans h.size k.size, fun i hi hS => (k.block i hi).trans (h.block i hi hS)⟩
theorem own_dr {base : Nat} {w : World} {e : TypeId} {size : Nat} {v : Value} {n : Nat} {xs : List Value} (h : w.ownsRow base e size v n xs) : w.drew.ownsRow base e size v n xs := h

set_option maxRecDepth 100000 in
set_option maxHeartbeats 4000000 in
theorem open_set {B b : Nat} (fl st n : Nat) (p : Bytes) (v : Value) (w : World) (h : By B w v p) (hb : Blk w b 33 (zc 4 fl st)) (hn : p.length = 6 * n) (hpl : p.length ≤ 16777215) (hBb : B ≤ b) :
    Calls Tryz.prog 76 #[Ptr b, v] w (Opened w b (some { ty := 4, fl := fl, st := st, sets := setsK p n })) := by
  obtain ⟨a, cap, rfl, hc, hcm⟩ := h.form
  have hbl := hb.lt
  have y0 : w.cell? ⟨b, 0, none⟩ = some (.int .i64 4) := hb.cell 0
  have HN := Lib.hid hn
  clear hn
  go_enter Tryz.func76, Tryz.ntmps76
  go_wp2
  go_loopw [5] (fun i wr => ∃ k vs, k ≤ n ∧ i = .int .i64 (6 * (k : Int)) ∧ Blk wr b 33 #[.int .i64 (4 : Nat), .int .i64 (fl : Nat), .int .i64 (st : Nat), S [], .int .i64 0, vs, .int .i64 0, .int .i64 0, .int .i64 0, .int .i64 0, .int .i64 0, .bool false] ∧ wr.ownsRow w.heap.size 52 2 vs k (scells (setsK p k)) ∧ But (fun k => k = b) w wr) (fun i _ => p.length - (intOf i).toNat)
  case atStart => exact ⟨0, _, Nat.zero_le _, rfl, hb, World.ownsRow_nil _ _ _ _, But.refl _ _⟩
  case round =>
    obtain ⟨k, vs, hk, rfl, hbr, hown, hbut⟩ := hrel
    obtain ⟨av, cv, rfl⟩ := own_form hown
    by_cases hlt : k < n
    · have hsz := hbut.size
      have hBw : Below B w wr := hbut.below (fun _ e => by rw [e]; exact hBb) (by omega)
      have hr := h.below hBw
      have hT := oTake_any p _ (6 * k) 2 wr hr (by decide) (by decide) (by have := HN.out; omega)
      have hN := Num_any p _ (6 * k + 2) wr.drew hr (by have := HN.out; omega)
      obtain ⟨m, em⟩ : ∃ m, m = beN ((p.drop (6 * k)).take 2) := ⟨_, rfl⟩
      obtain ⟨c, ec⟩ : ∃ c, c = numF p (6 * k + 2) := ⟨_, rfl⟩
      have es : set1 p k = (m, c) := by rw [em, ec]; rfl
      have hml : m < 4294967296 := by
        rw [em]
        refine Nat.lt_of_lt_of_le (beN_lt _) ?_
        exact Nat.pow_le_pow_right (j := 4) (by decide) (by rw [List.length_take]; omega)
      rw [← em] at hT
      rw [← ec] at hN
      have t0 : decide (6 * (k : Int) < (p.length : Int)) = true := by have := HN.out; simp; omega
      have e6 : ((6 * k : Nat) : Int) = 6 * (k : Int) := by simp
      have e7 : ((6 * k + 2 : Nat) : Int) = 6 * (k : Int) + 2 := by simp
      have tw : IntKind.i64.wrap (6 * (k : Int) + 2) = 6 * (k : Int) + 2 := IntWalk.i64_in _ (by have := HN.out; omega)
      have tm : IntKind.i64.wrap (m : Int) = (m : Int) := IntWalk.i64_in _ (by omega)
      rw [e6] at hT
      rw [e7] at hN
      have x5 : wr.cell? ⟨b, 5, none⟩ = some (.slice av k cv) := hbr.cell 5
      have f5 := hbr.free 5
      have x5a : ∀ o, (wr.alloc o).cell? ⟨b, 5, none⟩ = some _ := fun o => (hbr.alloc o).cell 5
      have hkm : k + 1 ≤ 16777215 := by have := HN.out; omega
      have ES := Lib.hid es
      clear em ec es h hb hr e6 e7
      go_upto_region 26 with (go_at_call 71; refine hT.mono ?_; rintro e wr ⟨rfl, rfl⟩)
      go_region_law (first
        | (go_simp; go_at_call 73; (with_reducible refine hN.mono ?_); rintro e w' ⟨rfl, rfl⟩)
        | (refine step_of ?_ (by rfl); refine wp_appG _ _ 31 rfl w.heap.size 52 (.agg #[.int .i64 0, .int .i64 0]) 2 16 Tryz.underlying31 (by kernel_rfl) rfl (by decide) _ _ _ rfl (own_dr (hown.alloc _)) _ _ _ [.int .i64 (m : Int), .int .i64 (c : Int)] rfl (Rd.drew (Rd.lit wr 52 #[.int .i64 (m : Int), .int .i64 (c : Int)] 2 1 rfl (by decide))) (scells_one [(m, c)]) (by unfold maxLen; omega) (by omega) (by simp; omega) ?_; intro a3 c3 w3 hown3 hb3 hg3; have hB3 := ((hbr.alloc (.cells #[.int .i64 (m : Int), .int .i64 (c : Int)] 52)).drew.below hb3 hbl); have z5 : w3.cell? ⟨b, 5, none⟩ = some (.slice av k cv) := hB3.cell 5; have g5 := hB3.free 5))
      all_goals (
        have hb2 : But (fun k => k = b) w (w3.setCell ⟨b, 5, none⟩ (.slice a3 (k + 1) c3)) := (but_on ((hbut.alloc _).drew) hb3).setCell (p := ⟨b, 5, none⟩) (.inl rfl) _
        clear hT hN x5a hg3 hb3 x5
        go_wp2
        go_roundw
        case rel => exact ⟨k + 1, _, by omega, by go_num, hB3.set 5 _, by rw [setsK_succ, scells_append, ES.out]; exact ownsRow_setCell_below hown3 hbl _, hb2⟩
        case measure => have := HN.out; simp [intOf]; omega)
    · obtain rfl : k = n := by omega
      have t0 : decide (6 * (k : Int) < (p.length : Int)) = false := by have := HN.out; simp; omega
      go_wp2
      go_ret
      exact ⟨hbut, rfl, _, hbr, by show wr.ownsRow _ _ _ _ (setsK p k).length _; rw [setsK_length]; exact hown⟩
end Go.Proofs.YtmbakobindjjmaaGreatDoor
