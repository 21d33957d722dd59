
/- The walks of layer 17 and of its reference, third part: a request's key, and the names that an answer varies by. -/
import Derived.Test.YtghggooaaefdcabGreatDoorHop3
import Derived.Test.YtghggooaaefdcabGreatDoorVarL
import Derived.Test.YtghggooaaefdcabGreatDoorShelf2
import Derived.Test.YtghggooaaefdcabGreatDoorOpen
import Derived.Sort.OwnSorted
namespace Go.Proofs.YtghggooaaefdcabGreatDoor
open Go.RowKit Go.Dr

theorem own_less {w : World} {base : Nat} {e : TypeId} {size : Nat} {a : Option Addr} {n cap : Nat} {xs : List Value} (h : w.ownsRow base e size (.slice a n cap) n xs) {m : Nat} (hm : m ≤ n) (ha : a ≠ none) : w.ownsRow base e size (.slice a m cap) m (xs.take (m * size)) := by
  have hle := Nat.mul_le_mul_right size hm
  refine ⟨by rw [List.length_take, h.1]; omega, ?_⟩
  rcases h.2 with ⟨hn, _⟩ | ⟨g, cap', cur, hv, hbg, hgg, h1, h2, h3, h4⟩
  · simp only [Value.slice.injEq] at hn
    exact absurd hn.1 ha
  · simp only [Value.slice.injEq] at hv
    obtain ⟨rfl, -, rfl⟩ := hv
    exact .inr ⟨g, cap, cur, rfl, hbg, hgg, by omega, h2, h3, by rw [← h4, List.take_take, Nat.min_eq_left hle]⟩

theorem S_enc (l : List Bytes) : l.map S = l.map encStr := rfl

theorem rising_nil : rising [] = [] := by simp [rising, Lib.compact, Lib.compactUpTo]

set_option maxRecDepth 100000 in
set_option maxHeartbeats 1000000 in
theorem rising_any (l : List Bytes) (base : Nat) (v : Value) (w : World) (h : w.ownsRow base 9 1 v l.length (l.map S)) (hB : base ≤ w.heap.size) (hl : l.length ≤ 1099511627776) :
    Calls Tryz.prog 43 #[v] w fun e w' => ∃ v', e = .returned v' ∧ w'.ownsRow base 9 1 v' (rising l).length ((rising l).map S) ∧ Below base w w' := by
  rcases h.2 with ⟨rfl, hn⟩ | ⟨g, cap, cur, rfl, hbg, hgg, h1, h2, h3, h4⟩
  · obtain rfl : l = [] := List.eq_nil_of_length_eq_zero hn
    go_enter Tryz.func43, Tryz.ntmps43
    go_wp2_with fail
    refine (Tryz.slices_Sort_string_none none 0 w).mono ?_
    rintro e w1 ⟨rfl, hw1⟩
    obtain rfl : w = w1 := hw1.symm
    go_wp2_with fail
    refine (Tryz.slices_Compact_string_empty none 0 w).mono ?_
    rintro e w1 ⟨rfl, hw1⟩
    obtain rfl : w = w1 := hw1.symm
    go_wp2
    go_ret
    exact ⟨.slice none 0 0, rfl, by rw [rising_nil]; exact h, Below.refl _ _⟩
  · have hlt := (Array.getElem?_eq_some_iff.1 hgg).1
    rw [Nat.mul_one, S_enc] at h4
    have hzl : (l.mergeSort fun x y => decide (x ≤ y)).length = l.length := List.length_mergeSort _
    have HR : Hid (rising l = Lib.compact (l.mergeSort fun x y => decide (x ≤ y))) := rfl
    have hso := Tryz.slices_Sort_string g 0 cap l w (holds_of_block hgg h4) hlt (by omega)
    go_enter Tryz.func43, Tryz.ntmps43
    go_wp2_with fail
    refine hso.mono ?_
    rintro e w1 ⟨rfl, n, os, hw1⟩
    have ho1 := ownsRow_sorted (n := n) (os := os) hzl hbg hgg h1 h2 h3
    have hg1 := grownBy_sorted (w := w) (g := g) (n := n) (os := os) (l.mergeSort fun x y => decide (x ≤ y)).toArray
    rw [← hw1] at ho1 hg1
    clear hw1 hso
    rw [← hzl] at ho1 ⊢
    generalize (l.mergeSort fun x y => decide (x ≤ y)) = zs at *
    have hzb : zs.length ≤ 1099511627776 := by omega
    clear hzl
    have hcl := compact_length_le zs
    have hb1 : Below base w w1 := (Below.refl _ _).grown hg1 hB (by intro k hk; simp only [Option.some.injEq] at hk; omega)
    rcases ho1.2 with ⟨hn, _⟩ | ⟨g', cap', cur1, hv, hbg1, hgg1, k1, k2, k3, k4⟩
    · cases hn
    · simp only [Value.slice.injEq, Option.some.injEq, Addr.mk.injEq, and_true, true_and] at hv
      obtain ⟨rfl, rfl⟩ := hv
      rw [Nat.mul_one] at k4
      go_wp2_with fail
      refine (Tryz.slices_Compact_string g 0 cap zs w1 (holds_of_block hgg1 k4) (by omega) k1).mono ?_
      rintro e w2 ⟨rfl, q, hw2⟩
      rw [← Go.Sort.grow_empty (Go.Sort.putRow _ _ _ _ _)] at hw2
      have hzz : (Lib.compact zs ++ List.replicate (zs.length - (Lib.compact zs).length) []).length = zs.length := by simp; omega
      have ho2 := ownsRow_sorted (n := q) (os := #[]) hzz hbg1 hgg1 k1 k2 k3
      have hg2 := grownBy_sorted (w := w1) (g := g) (n := q) (os := #[]) (Lib.compact zs ++ List.replicate (zs.length - (Lib.compact zs).length) []).toArray
      rw [← hw2] at ho2 hg2
      clear hw2
      have hb2 : Below base w1 w2 := (Below.refl _ _).grown hg2 (by have := hb1.size; omega) (by intro k hk; simp only [Option.some.injEq] at hk; omega)
      have ho3 := own_less ho2 (m := (Lib.compact zs).length) (by omega) (by simp)
      go_wp2
      go_ret
      refine ⟨_, rfl, ?_, hb1.trans hb2⟩
      rw [HR.out, S_enc]
      rw [Nat.mul_one, List.map_append, List.take_append_of_le_length (by simp), List.take_of_length_le (by simp)] at ho3
      exact ho3

end Go.Proofs.YtghggooaaefdcabGreatDoor
