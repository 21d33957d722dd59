/- Parts of the proof of pt_root: the texts Frm2. -/
import Derived.Test.YtkeeofhjdffhbaaGreatDoorT2
import Derived.Test.YtkeeofhjdffhbaaGreatDoorT4
set_option linter.unusedSimpArgs false
set_option linter.unusedVariables false
set_option linter.unnecessarySimpa false
namespace Go.Proofs.YtkeeofhjdffhbaaGreatDoor
open Go.RowKit Go.Dr
theorem mask31 (m : Nat) (h : m < 9223372036854775808) : bits .and .i64 (m : Int) 2147483647 = ((m % 2147483648 : Nat) : Int) := by
 have e := bits_and m 2147483647 h (by decide)
 rw [show (2147483647 : Nat) = 2 ^ 31 - 1 by decide, Nat.and_two_pow_sub_one_eq_mod] at e
 exact e
theorem Whole_any (c : Nat) (w : World) :
  Calls Tryz.prog 159 #[.int .i64 (c : Int)] w fun e w' => e = .returned (.agg #[.bool true, .int .i64 (c : Int), .int .i64 0]) ∧ Below w.heap.size w w' := by
 go_enter Tryz.func159, Tryz.ntmps159
 go_wp2
 exact bodyPost_ret (v := .agg #[.bool true, .int .i64 (c : Int), .int .i64 0]) (by simp [results, Tryz.results159, go_sem, World.cell?_alloc_mark]) rfl ⟨rfl, (Below.refl _ _).alloc (Nat.le_refl _) _⟩
theorem Place_any {B b : Nat} {c0 c1 c2 c3 c4 c5 c6 c7 c8 c9 c10 c11 : Value} (l : Bytes) (v : Value) (w : World) (h : By B w v l) (hl : 5 ≤ l.length) (hb : Blk w b 34 #[c0, c1, c2, c3, c4, c5, c6, c7, c8, c9, c10, c11]) :
  Calls Tryz.prog 199 #[Ptr b, v] w fun e w' => e = .returned (.tuple #[]) ∧ Blk w' b 34 #[c0, c1, c2, c3, c4, c5, c6, c7, c8, .int .i64 (numF l 0 % 2147483648 : Nat), .int .i64 ((l[4]'hl).toNat : Nat), .bool (decide (2147483647 < numF l 0))] ∧ But (fun k => k = b) w w' := by
 have hN := Num_any l v 0 w h (by omega)
 obtain ⟨a, cap, rfl, hc, hcm⟩ := h.form
 obtain ⟨b', off, rfl, -, x4⟩ := h.at 4 hl
 have hlt : numF l 0 < 4294967296 := by
  refine Nat.lt_of_lt_of_le (beN_lt _) ?_
  exact Nat.pow_le_pow_right (j := 4) (by decide) (by rw [List.length_take];omega)
 obtain ⟨m, em⟩ : ∃ m, m = numF l 0 := ⟨_, rfl⟩
 rw [← em] at hN hlt ⊢
 have hm := mask31 m (by omega)
 have y9 : w.cell? ⟨b, 9, none⟩ = some c9 := hb.cell 9
 have y10 : w.cell? ⟨b, 10, none⟩ = some c10 := hb.cell 10
 have y11 : w.cell? ⟨b, 11, none⟩ = some c11 := hb.cell 11
 have f9 := hb.free 9
 have f10 := hb.free 10
 have f11 := hb.free 11
 clear em
 go_enter Tryz.func199, Tryz.ntmps199
 go_wp2_with fail
 refine hN.mono ?_
 rintro e w' ⟨rfl, rfl⟩
 clear hN
 go_wp2
 go_end0
 have e1 : wrap64 ((l[4]'hl).toNat : Int) = ((l[4]'hl).toNat : Int) := by unfold wrap64;have := UInt8.toNat_lt (l[4]'hl);omega
 have e2 : decide ((2147483647 : Int) < (m : Int)) = decide (2147483647 < m) := by simp;omega
 have e3 : ((m : Int) % 2147483648) = ((m % 2147483648 : Nat) : Int) := by omega
 rw [e1, e2, e3]
 refine ⟨rfl, ?_, (((But.refl (fun k => k = b) w').setCell (p := ⟨b, 11, none⟩) (.inl rfl) _).setCell (p := ⟨b, 9, none⟩) (.inl rfl) _).setCell (p := ⟨b, 10, none⟩) (.inl rfl) _⟩
 exact ((hb.set 11 _).set 9 _).set 10 _
/-- what is wrong with a setting, with settings: a code -/
def unf1 (s : Nat × Nat) : Option Nat :=
 if (s.1 == 2 && decide (1 < s.2)) || (s.1 == 5 && (decide (s.2 < 16384) || decide (16777215 < s.2))) then some 1
 else if s.1 == 4 && decide (2147483647 < s.2) then some 3 else none
def unfF (l : List (Nat × Nat)) : Option Nat := l.findSome? unf1
def ftV (o : Option Nat) : Value := match o with | none => .agg #[.bool false, .int .i64 0, .int .i64 0] | some c => .agg #[.bool true, .int .i64 (c : Int), .int .i64 0]
theorem unfF_bad {l : List (Nat × Nat)} {k c : Nat} (hk : k < l.length) (h0 : ∀ j (hj : j < k), unf1 (l[j]'(by omega)) = none) (h1 : unf1 l[k] = some c) : unfF l = some c := by
 induction l generalizing k with
 | nil => simp at hk
 | cons x l ih =>
  unfold unfF
  rw [List.findSome?_cons]
  cases k with
  | zero => simp only [List.getElem_cons_zero] at h1;rw [h1]
  | succ k =>
   have := h0 0 (by omega)
   simp only [List.getElem_cons_zero] at this
   rw [this]
   exact ih (by simpa using hk) (fun j hj => by have := h0 (j + 1) (by omega);simpa using this) (by simpa using h1)
theorem unfF_good {l : List (Nat × Nat)} (h0 : ∀ j (hj : j < l.length), unf1 l[j] = none) : unfF l = none := by
 unfold unfF
 rw [List.findSome?_eq_none_iff]
 intro x hx
 obtain ⟨j, hj, rfl⟩ := List.getElem_of_mem hx
 exact h0 j hj
/-- The settings of a slice, read. -/
def Sts (B : Nat) (w : World) (v : Value) (l : List (Nat × Nat)) : Prop := Rd B w 2 v l.length (scells l)
theorem scells_get (l : List (Nat × Nat)) (k : Nat) (h : k < l.length) (j : Nat) (hj : j < 2) : (scells l)[k * 2 + j]? = (setc l[k])[j]? := by
 induction l generalizing k with
 | nil => simp at h
 | cons x l ih =>
  cases k with
  | zero => simp only [scells, List.flatMap_cons];rw [List.getElem?_append_left (by simp [setc];omega)];simp
  | succ k =>
   have e : scells (x :: l) = setc x ++ scells l := by simp [scells]
   rw [e, List.getElem?_append_right (by simp [setc];omega)]
   simp only [List.getElem_cons_succ]
   rw [← ih k (by simpa using h)]
   congr 1
   simp [setc]
   omega
theorem Sts.at {B : Nat} {w : World} {a : Option Addr} {n cap : Nat} {l : List (Nat × Nat)} (h : Sts B w (.slice a n cap) l) (k : Nat) (hk : k < l.length) :
  ∃ b off, a = some ⟨b, off, none⟩ ∧ b < B ∧ w.cell? ⟨b, off + k * 2, none⟩ = some (.int .i64 (l[k].1 : Nat)) ∧ w.cell? ⟨b, off + k * 2 + 1, none⟩ = some (.int .i64 (l[k].2 : Nat)) := by
 obtain ⟨a', cap', h1, h2, h3, h4, h5, h6⟩ := h
 simp only [Value.slice.injEq] at h1
 obtain ⟨rfl, rfl, rfl⟩ := h1
 obtain ⟨b, off, rfl, hb, c0⟩ := h6 (k * 2 + 0) _ (by rw [scells_get l k hk 0 (by omega)];rfl)
 obtain ⟨b1, off1, e1, _, c1⟩ := h6 (k * 2 + 1) _ (by rw [scells_get l k hk 1 (by omega)];rfl)
 simp only [Option.some.injEq, Addr.mk.injEq, and_true] at e1
 obtain ⟨rfl, rfl⟩ := e1
 exact ⟨b, off, rfl, hb, c0, by rw [Nat.add_assoc];exact c1⟩
theorem unf1_one {s : Nat × Nat} (h : (s.1 = 2 ∧ 1 < s.2) ∨ (s.1 = 5 ∧ (s.2 < 16384 ∨ 16777215 < s.2))) : unf1 s = some 1 := by
 simp only [unf1, Bool.or_eq_true, Bool.and_eq_true, beq_iff_eq, decide_eq_true_eq]
 rw [if_pos h]
theorem unf1_three {s : Nat × Nat} (h : s.1 = 4 ∧ 2147483647 < s.2) : unf1 s = some 3 := by
 simp only [unf1, Bool.or_eq_true, Bool.and_eq_true, beq_iff_eq, decide_eq_true_eq]
 rw [if_neg (by omega), if_pos h]
theorem unf1_none {s : Nat × Nat} (h : ¬ ((s.1 = 2 ∧ 1 < s.2) ∨ (s.1 = 5 ∧ (s.2 < 16384 ∨ 16777215 < s.2)))) (h2 : ¬ (s.1 = 4 ∧ 2147483647 < s.2)) : unf1 s = none := by
 simp only [unf1, Bool.or_eq_true, Bool.and_eq_true, beq_iff_eq, decide_eq_true_eq]
 rw [if_neg h, if_neg h2]
theorem ret_unfit {W : World} {tmps : Array Value} {b : Nat} {v0 v1 v2 : Value} {R : Ending → World → Prop} (hs : tmps[2]? = some (.pointer (some ⟨b, 0, none⟩))) (h : Blk W b 72 #[v0, v1, v2]) (hR : R (.returned (.agg #[v0, v1, v2])) W) :
  bodyPost Tryz.prog Tryz.f164 R .ret { tmps := tmps, defers := [] } W := by
 (have g0 : W.cell? ⟨b, 0, none⟩ = some (v0) := h.cell 0;have g1 : W.cell? ⟨b, 1, none⟩ = some (v1) := h.cell 1;have g2 : W.cell? ⟨b, 2, none⟩ = some (v2) := h.cell 2)
 exact bodyPost_ret (v := .agg #[v0, v1, v2]) (by simp [results, Tryz.results164, go_sem, hs, g0, g1, g2]) rfl hR
set_option maxRecDepth 100000 in
set_option maxHeartbeats 2000000 in
theorem Unfit_any (l : List (Nat × Nat)) (v : Value) (w : World) (h : Sts w.heap.size w v l) :
    Calls Tryz.prog 164 #[v] w fun e w' => e = .returned (ftV (unfF l)) ∧ Below w.heap.size w w' := by
  have h' := h
  obtain ⟨a, cap, rfl, hc, hcm, -⟩ := h'
  have hll : l.length ≤ 9223372036854775807 := by unfold maxLen at hcm;omega
  have hG : Blk (w.alloc (.cells #[.bool false, .int .i64 0, .int .i64 0] 72)) w.heap.size 72 #[.bool false, .int .i64 0, .int .i64 0] := Blk.new _ _ _
  go_enter Tryz.func164, Tryz.ntmps164
  go_wp2
  go_loopw [7] (fun i wr => ∃ k : Nat, k ≤ l.length ∧ i = .int .i64 (k : Int) ∧ (∀ j (hj : j < k) (hj' : j < l.length), unf1 l[j] = none) ∧ Below w.heap.size w wr ∧ Blk wr w.heap.size 72 #[.bool false, .int .i64 0, .int .i64 0]) (fun i _ => l.length - (intOf i).toNat)
  case atStart => exact ⟨0, Nat.zero_le _, rfl, fun j hj => by omega, (Below.refl _ _).alloc (Nat.le_refl _) _, hG⟩
  case round =>
    obtain ⟨k, hk, rfl, hu, hbw, hR⟩ := hrel
    by_cases hlt : k < l.length
    · have hr : Sts w.heap.size wr (.slice a l.length cap) l := Rd.below h hbw
      obtain ⟨b, off, rfl, hb, x0, x1⟩ := hr.at k hlt
      have HU := Lib.hid hu
      clear hu hG hr
      have hsz : w.heap.size < wr.heap.size := hR.lt
      go_wp2_with (go_at_call 159;refine (Whole_any _ _).mono ?_;rintro e w' ⟨rfl, hb9⟩;have hRX := (hR.alloc _).on hb9;have hwX := hbw.trans (((Below.refl w.heap.size wr).alloc (Nat.le_of_lt hsz) _).trans (hb9.mono (by simp;omega)));have q0 : w'.cell? ⟨w.heap.size, 0, none⟩ = some (.bool false) := hRX.cell 0;have q1 : w'.cell? ⟨w.heap.size, 1, none⟩ = some (.int .i64 0) := hRX.cell 1;have q2 : w'.cell? ⟨w.heap.size, 2, none⟩ = some (.int .i64 0) := hRX.cell 2;have z0 := hRX.free 0;have z1 := hRX.free 1;have z2 := hRX.free 2)
      all_goals first
        | (refine ret_unfit rfl (((hRX.set 0 _).set 1 _).set 2 _) ⟨?_, ((hwX.setCell (p := ⟨w.heap.size, 0, none⟩) (Nat.le_refl _) _).setCell (p := ⟨w.heap.size, 1, none⟩) (Nat.le_refl _) _).setCell (p := ⟨w.heap.size, 2, none⟩) (Nat.le_refl _) _⟩
           rw [unfF_bad (c := 1) hlt (fun j hj => HU.out j hj (by omega)) (unf1_one (by omega))]
           rfl)
        | (refine ret_unfit rfl (((hRX.set 0 _).set 1 _).set 2 _) ⟨?_, ((hwX.setCell (p := ⟨w.heap.size, 0, none⟩) (Nat.le_refl _) _).setCell (p := ⟨w.heap.size, 1, none⟩) (Nat.le_refl _) _).setCell (p := ⟨w.heap.size, 2, none⟩) (Nat.le_refl _) _⟩
           rw [unfF_bad (c := 3) hlt (fun j hj => HU.out j hj (by omega)) (unf1_three (by omega))]
           rfl)
        | skip
      all_goals (
        go_roundw
        case rel =>
          refine ⟨k + 1, by omega, by go_num, fun j hj hj' => ?_, hbw.alloc (Nat.le_of_lt hsz) _, hR.alloc _⟩
          by_cases e : j < k
          · exact HU.out j e hj'
          · obtain rfl : j = k := by omega
            exact unf1_none (by omega) (by omega)
        case measure => simp [intOf];omega)
    · obtain rfl : k = l.length := by omega
      have HU := Lib.hid hu
      clear hu
      (have q0 : wr.cell? ⟨w.heap.size, 0, none⟩ = some (.bool false) := hR.cell 0;have q1 : wr.cell? ⟨w.heap.size, 1, none⟩ = some (.int .i64 0) := hR.cell 1;have q2 : wr.cell? ⟨w.heap.size, 2, none⟩ = some (.int .i64 0) := hR.cell 2)
      have z0 := hR.free 0
      have z1 := hR.free 1
      have z2 := hR.free 2
      go_wp2
      refine ret_unfit rfl (((hR.set 0 _).set 1 _).set 2 _) ⟨?_, ((hbw.setCell (p := ⟨w.heap.size, 0, none⟩) (Nat.le_refl _) _).setCell (p := ⟨w.heap.size, 1, none⟩) (Nat.le_refl _) _).setCell (p := ⟨w.heap.size, 2, none⟩) (Nat.le_refl _) _⟩
      rw [unfF_good (fun j hj => HU.out j hj hj)]
      rfl
end Go.Proofs.YtkeeofhjdffhbaaGreatDoor
