/- Parts of the proof of pt_root: the texts Shf3 PtL Enc4 Enc5. -/
import Derived.Lib.SliceRun
import Derived.Test.YtkeeofhjdffhbaaGreatDoorProg
import Derived.Test.YtkeeofhjdffhbaaGreatDoorT44
set_option linter.unusedSimpArgs false
set_option linter.unusedVariables false
set_option linter.unnecessarySimpa false
namespace Go.Proofs.YtkeeofhjdffhbaaGreatDoor
open Go.RowKit Go.Dr
set_option maxRecDepth 100000 in
set_option maxHeartbeats 2000000 in
theorem CloneF_any (l : List F) (v : Value) (w : World) (h : Fs w.heap.size w v l) (hl : l.length * 40 ≤ 140737488351232) :
  Calls Tryz.prog 54 #[v] w fun e w' => ∃ v', e = .returned v' ∧ w'.ownsRow w.heap.size 41 3 v' l.length (fcells l) ∧ Below w.heap.size w w' := by
 obtain ⟨a, c, rfl, -⟩ := h.form
 have q22 : ∀ (w : World) (a : Option Addr) (n c n' c' : Nat), (binOp .eql 42 (.slice a n c) (.slice none n' c')).run Tryz.prog w = .ok (.bool a.isNone) w := fun w a n c n' c' => Lib.run_eql_slice_nil w _ _ a n c n' c' Tryz.underlying42
 cases a with
 | none =>
  have hn : l.length = 0 := by
   rcases Nat.eq_zero_or_pos l.length with e | e
   ·exact e
   ·obtain ⟨b, off, h1, -⟩ := h.at 0 e
    cases h1
  obtain rfl := List.eq_nil_of_length_eq_zero hn
  clear hn hl
  go_enter Tryz.func54, Tryz.ntmps54
  go_wp2
  go_ret
  exact ⟨_, rfl, World.ownsRow_nil _ _ _ _, Below.refl _ _⟩
 | some a =>
  go_enter Tryz.func54, Tryz.ntmps54
  go_wp2_with (at_builtin;refine wpList_appRd rfl _ _ 42 rfl w.heap.size 41 (.agg #[.string ByteArray.empty, .string ByteArray.empty, .bool false]) 3 40 Tryz.underlying42 (by kernel_rfl) rfl (by decide) _ _ _ rfl (by exact own_lit _ w.heap.size rfl w.heap.size (Nat.le_refl _) _ _) _ _ _ _ rfl (by exact h.below ((Below.refl _ _).alloc (Nat.le_refl _) _)) (fcells_one _) (by unfold maxLen;omega) (by omega) (by simp) ?_;intro a3 c3 w3 hown3 hb3;simp only [Nat.zero_add, List.nil_append] at hown3)
  go_ret
  exact ⟨_, rfl, hown3, ((Below.refl _ _).alloc (Nat.le_refl _) _).trans hb3⟩
end Go.Proofs.YtkeeofhjdffhbaaGreatDoor
namespace Go.Proofs.YtkeeofhjdffhbaaGreatDoor
open Go Go.RowKit Go.Dr
set_option maxRecDepth 100000 in
set_option maxHeartbeats 4000000 in
theorem Answers_one {p fo fi o d m t s m1 m2 : Nat} {q : Pt} (w : World) (h : Pz w p fo fi o d m t s m1 m2 q) (hh : q.hd = true) :
  Calls Tryz.prog 14 #[Ptr p] w fun e w' => (∃ g c a' c', e = .returned (.slice (some ⟨g, 0, none⟩) 1 c) ∧ w'.cell? ⟨g, 1, none⟩ = some (.int .i64 200) ∧ w'.cell? ⟨g, 2, none⟩ = some (.slice a' 1 c') ∧ w'.cell? ⟨g, 3, none⟩ = some (S q.body) ∧ w'.cell? ⟨g, 4, none⟩ = some (.bool q.e)) ∧ Below w.heap.size w w' := by
 obtain ⟨all, beg, sets, x, first, hd, body, e0, aw, cl, bad⟩ := q
 simp only at hh
 subst hh
 obtain ⟨or, en, bl, hP0, hor⟩ := h.blk
 obtain ⟨v, hS, hv⟩ := h.side
 obtain ⟨oa, oc, rfl, hrow⟩ := hor
 obtain ⟨fa, fc, rfl, hfld⟩ := hv
 obtain ⟨go, rfl, hc⟩ := own_cell hrow (by decide)
 have c0 : w.cell? ⟨go, 0, none⟩ = some (.int .i64 1) := hc 0 _ rfl
 have y12 : w.cell? ⟨p, 12, none⟩ = some (.slice (some ⟨go, 0, none⟩) 1 oc) := hP0.cell 12
 have y11 : w.cell? ⟨p, 11, none⟩ = some (.map (some m)) := hP0.cell 11
 have k1 := one_get h.map
 have s0 : w.cell? ⟨s, 0, none⟩ = some (.int .i64 1) := hS.cell 0
 have s1 : w.cell? ⟨s, 1, none⟩ = some (.int .i64 200) := hS.cell 1
 have s2 : w.cell? ⟨s, 2, none⟩ = some (.slice fa 1 fc) := hS.cell 2
 have s3 : w.cell? ⟨s, 3, none⟩ = some (S body) := hS.cell 3
 have s4 : w.cell? ⟨s, 4, none⟩ = some (.bool e0) := hS.cell 4
 have s5 : w.cell? ⟨s, 5, none⟩ = some (.bool false) := hS.cell 5
 have s6 : w.cell? ⟨s, 6, none⟩ = some (.int .i64 0) := hS.cell 6
 obtain ⟨W, eW⟩ : ∃ W, W = w.alloc (.cells #[.int .i64 1, .int .i64 200, .slice fa 1 fc, S body, .bool e0, .bool false, .int .i64 0] 47) := ⟨_, rfl⟩
 have hb : Below w.heap.size w W := by rw [eW];exact (Below.refl _ _).alloc (Nat.le_refl _) _
 have hA : Blk W w.heap.size 47 #[.int .i64 1, .int .i64 200, .slice fa 1 fc, S body, .bool e0, .bool false, .int .i64 0] := by rw [eW];exact Blk.new _ _ _
 have a2 : W.cell? ⟨w.heap.size, 2, none⟩ = some (.slice fa 1 fc) := hA.cell 2
 have hCl := CloneF_any [fAb] (.slice fa 1 fc) W (Rd.own (own_below hfld hb)) (by decide)
 clear hc
 go_enter Tryz.func14, Tryz.ntmps14
 go_wp2
 refine wp_loop_rounds 2 ?_
 rw [rounds_succ]
 go_upto_region 8 with fail
 rw [← eW]
 clear eW
 go_upto_region 9 with (go_at_call 54;go_must ((with_reducible refine hCl.mono ?_);rintro e w2 ⟨v', rfl, hr2, hb2⟩;replace hr2 : w2.ownsRow W.heap.size 41 3 v' 1 _ := hr2;obtain ⟨a', c', rfl⟩ := own_form hr2;have hA2 := hA.on hb2;have f2 := hA2.free 2;have b2 : w2.cell? ⟨w.heap.size, 2, none⟩ = some (.slice fa 1 fc) := hA2.cell 2))
 have hbw := hb.trans (hb2.mono hb.size)
 have hA3 : Blk (w2.setCell ⟨w.heap.size, 2, none⟩ (.slice a' 1 c')) w.heap.size 47 #[.int .i64 1, .int .i64 200, .slice a' 1 c', S body, .bool e0, .bool false, .int .i64 0] := hA2.set 2 _
 have hb3 : Below w.heap.size w (w2.setCell ⟨w.heap.size, 2, none⟩ (.slice a' 1 c')) := hbw.setCell (p := ⟨w.heap.size, 2, none⟩) (Nat.le_refl _) _
 obtain ⟨W3, eW3⟩ : ∃ W3, W3 = w2.setCell ⟨w.heap.size, 2, none⟩ (.slice a' 1 c') := ⟨_, rfl⟩
 rw [← eW3] at hA3 hb3 ⊢
 clear eW3 f2 b2 a2
 have x0 : W3.cell? ⟨w.heap.size, 0, none⟩ = some (.int .i64 1) := hA3.cell 0
 have x1 : W3.cell? ⟨w.heap.size, 1, none⟩ = some (.int .i64 200) := hA3.cell 1
 have x2 : W3.cell? ⟨w.heap.size, 2, none⟩ = some (.slice a' 1 c') := hA3.cell 2
 have x3 : W3.cell? ⟨w.heap.size, 3, none⟩ = some (S body) := hA3.cell 3
 have x4 : W3.cell? ⟨w.heap.size, 4, none⟩ = some (.bool e0) := hA3.cell 4
 have x5 : W3.cell? ⟨w.heap.size, 5, none⟩ = some (.bool false) := hA3.cell 5
 have x6 : W3.cell? ⟨w.heap.size, 6, none⟩ = some (.int .i64 0) := hA3.cell 6
 have hz3 := hb3.size
 go_wp2_with (at_builtin;go_must (refine wpList_appRd rfl _ _ 44 rfl w.heap.size 47 (.agg #[.int .i64 0, .int .i64 0, .slice none 0 0, .string ByteArray.empty, .bool false, .bool false, .int .i64 0]) 7 72 Tryz.underlying44 (by kernel_rfl) rfl (by decide) _ _ _ rfl (World.ownsRow_nil _ _ _ _) _ _ _ [.int .i64 1, .int .i64 200, .slice a' 1 c', S body, .bool e0, .bool false, .int .i64 0] rfl (Rd.lit W3 47 #[.int .i64 1, .int .i64 200, .slice a' 1 c', S body, .bool e0, .bool false, .int .i64 0] 7 1 rfl (by decide)) (by intro u hu;simp at hu;rcases hu with rfl | rfl | rfl | rfl | rfl | rfl | rfl <;> rfl) (by decide) (by decide) (by simp;omega) ?_);intro a5 c5 w5 hown5 hb5)
 rw [rounds_succ]
 go_wp2
 go_ret
 obtain ⟨g, rfl, hc5⟩ := own_cell hown5 (by decide)
 exact ⟨⟨g, c5, a', c', rfl, hc5 1 _ rfl, hc5 2 _ rfl, hc5 3 _ rfl, hc5 4 _ rfl⟩, (hb3.alloc hz3 _).trans hb5⟩
end Go.Proofs.YtkeeofhjdffhbaaGreatDoor
namespace Go.Dr
/-- the search through rows: from the row behind the first i;the first row of the name so far -/
def findR (n v : Bytes) : List F → Nat → Nat → Nat × Bool
 | [], _, near => (near, false)
 | r :: t, i, near => if r.n == n then (if r.v == v then (i + 1, true) else findR n v t (i + 1) (if near = 0 then i + 1 else near)) else findR n v t (i + 1) near
theorem findR_skip (n v : Bytes) (l : List F) (k near : Nat) (h : k < l.length) (h1 : (l[k].n == n) = false) : findR n v (l.drop k) k near = findR n v (l.drop (k + 1)) (k + 1) near := by
 rw [List.drop_eq_getElem_cons h, findR, h1];rfl
theorem findR_hit (n v : Bytes) (l : List F) (k near : Nat) (h : k < l.length) (h1 : (l[k].n == n) = true) (h2 : (l[k].v == v) = true) : findR n v (l.drop k) k near = (k + 1, true) := by
 rw [List.drop_eq_getElem_cons h, findR, h1, h2];rfl
theorem findR_near (n v : Bytes) (l : List F) (k near : Nat) (h : k < l.length) (h1 : (l[k].n == n) = true) (h2 : (l[k].v == v) = false) : findR n v (l.drop k) k near = findR n v (l.drop (k + 1)) (k + 1) (if near = 0 then k + 1 else near) := by
 rw [List.drop_eq_getElem_cons h, findR, h1, h2];rfl
theorem findR_end (n v : Bytes) (l : List F) (k near : Nat) (h : l.length ≤ k) : findR n v (l.drop k) k near = (near, false) := by
 rw [List.drop_eq_nil_of_le h, findR]
end Go.Dr
namespace Go.Proofs.YtkeeofhjdffhbaaGreatDoor
open Go.RowKit Go.Dr
set_option maxRecDepth 100000 in
set_option maxHeartbeats 4000000 in
theorem rPutInt_small (fl bits n : Nat) (hb : bits ≤ 7) (hn : n + 1 < 2 ^ bits) (hf : fl + n < 256) (w : World) :
  Calls Tryz.prog 42 #[.int .u8 (fl : Int), .int .i64 (bits : Int), .int .u32 (n : Int)] w fun e w' => ∃ v, e = .returned v ∧ w'.ownsRow w.heap.size 5 1 v 1 [.int .u8 ((fl + n : Nat) : Int)] ∧ Below w.heap.size w w' := by
 have HP := Lib.hid (show ∀ k, k ≤ bits → 1 ≤ 2 ^ k ∧ 2 ^ k ≤ 128 from fun k hk => ⟨Nat.one_le_two_pow, Nat.le_trans (Nat.pow_le_pow_right (by decide) (Nat.le_trans hk hb)) (by decide)⟩)
 have HN := Lib.hid hn
 clear hn
 go_enter Tryz.func42, Tryz.ntmps42
 go_wp2
 go_loop [7, 8] (fun full i => ∃ k m : Nat, k ≤ bits ∧ Hid (m = 2 ^ k) ∧ 1 ≤ m ∧ m ≤ 128 ∧ i = .int .i64 (k : Int) ∧ full = .int .u32 (m : Int)) (fun _ i => bits - (intOf i).toNat)
 case atStart => exact ⟨0, 1, Nat.zero_le _, rfl, by decide, by decide, rfl, rfl⟩
 case round =>
  obtain ⟨k, m, hk, HM, hm1, hm2, rfl, rfl⟩ := hrel
  by_cases hlt : k < bits
  ·obtain ⟨h1, h2⟩ := HP.out (k + 1) hlt
   have HM2 : Hid (m * 2 = 2 ^ (k + 1)) := by rw [HM.out, Nat.pow_succ];rfl
   have h3 : m * 2 ≤ 128 := by rw [HM2.out];exact h2
   clear h1 h2
   go_wp2
   go_round
   case rel => exact ⟨k + 1, m * 2, hlt, HM2, by omega, h3, by go_num, by go_num⟩
   case measure => simp [intOf];omega
  ·obtain rfl : k = bits := by omega
   have hn : n + 1 < m := by rw [HM.out];exact HN.out
   have hs : (n : Int) < (m : Int) - 1 := by omega
   go_wp2
   go_ret
   exact ⟨_, rfl, World.ownsRow_lit (base := w.heap.size) (e := 5) (size := 1) w #[.int .u8 ((fl + n : Nat) : Int)] 1 (Nat.le_refl _) (by decide) rfl, (Below.refl _ _).alloc (Nat.le_refl _) _⟩
end Go.Proofs.YtkeeofhjdffhbaaGreatDoor
namespace Go.Dr
/-- how many bits each byte's code has -/
def lenL : List Nat := [13, 23, 28, 28, 28, 28, 28, 28, 28, 24, 30, 28, 28, 30, 28, 28, 28, 28, 28, 28, 28, 28, 30, 28, 28, 28, 28, 28, 28, 28, 28, 28, 6, 10, 10, 12, 13, 6, 8, 11, 10, 10, 8, 11, 8, 6, 6, 6, 5, 5, 5, 6, 6, 6, 6, 6, 6, 6, 7, 8, 15, 6, 12, 10, 13, 6, 7, 7, 7, 7, 7, 7, 7, 7, 7, 7, 7, 7, 7, 7, 7, 7, 7, 7, 7, 7, 7, 7, 8, 7, 8, 13, 19, 13, 14, 6, 15, 5, 6, 5, 6, 5, 6, 6, 6, 5, 7, 7, 6, 6, 6, 5, 6, 7, 6, 5, 5, 6, 7, 7, 7, 7, 7, 15, 11, 14, 13, 28, 20, 22, 20, 20, 22, 22, 22, 23, 22, 23, 23, 23, 23, 23, 24, 23, 24, 24, 22, 23, 24, 23, 23, 23, 23, 21, 22, 23, 22, 23, 23, 24, 22, 21, 20, 22, 22, 23, 23, 21, 23, 22, 22, 24, 21, 22, 23, 23, 21, 21, 22, 21, 23, 22, 23, 23, 20, 22, 22, 22, 23, 22, 22, 23, 26, 26, 20, 19, 22, 23, 22, 25, 26, 26, 26, 27, 27, 26, 24, 25, 19, 21, 26, 27, 27, 26, 27, 24, 21, 21, 26, 26, 28, 27, 27, 27, 20, 24, 20, 21, 22, 21, 21, 23, 22, 22, 25, 25, 24, 24, 26, 23, 26, 27, 26, 26, 27, 27, 27, 27, 27, 28, 27, 27, 27, 27, 27, 26, 30]
def lenN (c : UInt8) : Nat := lenL.getD c.toNat 0
theorem lenL_small : ∀ n ∈ lenL, n ≤ 30 := by decide +kernel
theorem lenL_length : lenL.length = 257 := by decide +kernel
theorem getD_at (l : List Nat) (k : Nat) (h : k < l.length) : l.getD k 0 = l[k] := by simp [List.getD, List.getElem?_eq_getElem h]
theorem lenN_le (c : UInt8) : lenN c ≤ 30 := by
 have hc : c.toNat < lenL.length := by rw [lenL_length];have := UInt8.toNat_lt c;omega
 unfold lenN
 rw [getD_at _ _ hc]
 exact lenL_small _ (List.getElem_mem _)
def bitsF (l : Bytes) : Nat := (l.map lenN).sum
def huffN (l : Bytes) : Nat := (bitsF l + 7) / 8
theorem bitsF_snoc (l : Bytes) (k : Nat) (h : k < l.length) : bitsF (l.take (k + 1)) = bitsF (l.take k) + lenN l[k] := by
 rw [take_snoc l k h];simp only [bitsF, List.map_append, List.sum_append, List.map_cons, List.map_nil, List.sum_cons, List.sum_nil];rfl
theorem bitsF_le (l : Bytes) : bitsF l ≤ 30 * l.length := by
 induction l with
 | nil => simp [bitsF]
 | cons c l ih => have := lenN_le c;simp only [bitsF, List.map_cons, List.sum_cons, List.length_cons] at ih ⊢;omega
end Go.Dr
namespace Go.Proofs.YtkeeofhjdffhbaaGreatDoor
open Go.RowKit Go.Dr
set_option maxRecDepth 100000 in
set_option maxHeartbeats 4000000 in
theorem rLengths (w : World) : Calls Tryz.prog 115 #[] w fun e w' => e = .returned (.slice (some ⟨w.heap.size, 0, none⟩) 257 257) ∧ w' = w.alloc (.cells ((lenL.map fun n : Nat => (n : Int)).map (Value.int .i64)).toArray 3) := by
 go_enter Tryz.func115, Tryz.ntmps115
 go_upto_region 1 with fail
 refine wp_region_lit ?_
 refine Go.wpList_buildFlat rfl 85 3 257 _ rfl .i64 (lenL.map fun n : Nat => (n : Int)) Tryz.underlying85 (by kernel_rfl) (by kernel_rfl) (by rw [List.length_map, lenL_length]) (by decide) (by decide) (by kernel_rfl) ?_
 generalize hz : (lenL.map fun n : Nat => (n : Int)).map (Value.int .i64) = zs
 have HZ := Lib.hid hz
 clear hz
 go_wp2
 go_ret
 exact ⟨rfl, by rw [HZ.out]⟩
theorem len_cell {w W : World} (hb : Below (w.heap.size + 1) (w.alloc (.cells ((lenL.map fun n : Nat => (n : Int)).map (Value.int .i64)).toArray 3)) W) (c : UInt8) : W.cell? ⟨w.heap.size, c.toNat, none⟩ = some (.int .i64 (lenN c : Nat)) := by
 have hc : c.toNat < lenL.length := by rw [lenL_length];have := UInt8.toNat_lt c;omega
 rw [hb.cell (p := ⟨w.heap.size, c.toNat, none⟩) (by simp)]
 have e : (w.alloc (.cells ((lenL.map fun n : Nat => (n : Int)).map (Value.int .i64)).toArray 3)).heap[w.heap.size]? = some (.cells ((lenL.map fun n : Nat => (n : Int)).map (Value.int .i64)).toArray 3) := obj_new w _ _ rfl
 simp only [World.cell?, e]
 simp [List.getElem?_eq_getElem hc, lenN, getD_at _ _ hc]
set_option maxRecDepth 100000 in
set_option maxHeartbeats 4000000 in
theorem rSize_any (l : Bytes) (hl : l.length ≤ 1048576) (w : World) : Calls Tryz.prog 82 #[S l] w fun e w' => e = .returned (.int .i64 (huffN l : Nat)) ∧ Below w.heap.size w w' := by
 have hm : l.length ≤ 9223372036854775807 := by omega
 have hbw : Below w.heap.size w (w.alloc (.cells ((lenL.map fun n : Nat => (n : Int)).map (Value.int .i64)).toArray 3)) := (Below.refl _ _).alloc (Nat.le_refl _) _
 have hlc := len_cell (w := w) (Below.refl _ _)
 have HB := Lib.hid (bitsF_le l)
 go_enter Tryz.func82, Tryz.ntmps82
 go_wp2_with (go_at_call 115;(with_reducible refine (rLengths _).mono ?_);rintro e w1 ⟨rfl, hw1⟩;rw [← hw1] at hbw hlc;clear hw1)
 go_loop [4, 5] (fun n i => ∃ k : Nat, k ≤ l.length ∧ i = .int .i64 (k : Int) ∧ n = .int .i64 (bitsF (l.take k) : Nat) ∧ bitsF (l.take k) ≤ 30 * k) (fun _ i => l.length - (intOf i).toNat)
 case atStart => exact ⟨0, Nat.zero_le _, rfl, rfl, by simp [bitsF]⟩
 case round =>
  obtain ⟨k, hk, rfl, rfl, hbk⟩ := hrel
  by_cases hlt : k < l.length
  ·have HS := Lib.hid (bitsF_snoc l k hlt)
   have h30 := lenN_le l[k]
   have hc := hlc l[k]
   have hcn := UInt8.toNat_lt l[k]
   generalize bitsF (l.take k) = n at *
   go_wp2
   go_round
   case rel => exact ⟨k + 1, hlt, by go_num, by rw [HS.out];go_num, by rw [HS.out];omega⟩
   case measure => simp [intOf];omega
  ·obtain rfl : k = l.length := by omega
   rw [List.take_length] at *
   have hz : huffN l = (bitsF l + 7) / 8 := rfl
   have HZ := Lib.hid hz
   clear hz
   generalize bitsF l = n at *
   go_wp2
   go_loop [4] (fun x => ∃ m : Nat, x = .int .i64 (m : Int) ∧ n ≤ m ∧ m < n + 8 ∧ (m + 7) / 8 = (n + 7) / 8) (fun x => (8 - (intOf x).toNat % 8) % 8)
   case atStart => exact ⟨n, rfl, Nat.le_refl _, by omega, rfl⟩
   case round =>
    obtain ⟨m, rfl, h1, h2, h3⟩ := hrel
    by_cases h8 : m % 8 = 0
    ·have h9 : ((m : Int) % 8 != 0) = false := by simp;omega
     have h10 : m / 8 = huffN l := by rw [HZ.out, ← h3];omega
     have H10 := Lib.hid h10
     clear h8 h10
     go_wp2
     go_ret
     exact ⟨ret_int (by rw [← H10.out];omega), hbw⟩
    ·have h9 : ((m : Int) % 8 != 0) = true := by simp;omega
     go_wp2
     go_round
     case rel => exact ⟨m + 1, by go_num, by omega, by omega, by omega⟩
     case measure => simp [intOf];omega
set_option maxRecDepth 100000 in
set_option maxHeartbeats 4000000 in
/-- a text that is not shorter as bits -/
theorem rPutText_raw (l : Bytes) (hl : l.length < 127) (hh : l.length ≤ huffN l) (w : World) : Calls Tryz.prog 45 #[S l] w fun e w' => ∃ v, e = .returned v ∧ w'.ownsRow w.heap.size 5 1 v (1 + l.length) ((UInt8.ofNat l.length :: l).map B8) ∧ Below w.heap.size w w' := by
 have hd : decide (huffN l < l.length) = false := by simp;omega
 have hq : IntKind.u32.wrap (l.length : Int) = (l.length : Int) := by simp [IntKind.wrap, IntKind.signed, IntKind.bits];omega
 have hP := rPutInt_small 0 7 l.length (by decide) (by show l.length + 1 < 128;omega) (by omega)
 have hu : ((0 + l.length : Nat) : Int) = ((UInt8.ofNat l.length).toNat : Int) := by simp;omega
 have HU := Lib.hid hu
 clear hu
 go_enter Tryz.func45, Tryz.ntmps45
 go_wp2_with first
  | (go_at_call 82;(with_reducible refine (rSize_any l (by omega) _).mono ?_);rintro e w1 ⟨rfl, hb1⟩)
  | (go_at_call 42;go_must (refine (hP _).mono ?_);rintro e w2 ⟨v2, rfl, hr2, hb2⟩;rw [HU.out] at hr2;obtain ⟨a2, c2, rfl⟩ := own_form hr2)
  | (at_builtin;go_must (refine wpList_appStr rfl _ _ 26 9 rfl w.heap.size 5 Tryz.underlying26 Tryz.underlying9 (by kernel_rfl) _ _ _ rfl (own_base hr2 hb1.size) l rfl (by omega) (by have := hb1.size;have := hb2.size;omega) ?_);intro a3 c3 w3 hr3 hb3)
 go_ret
 refine ⟨_, rfl, hr3, ?_⟩
 exact (hb1.trans (hb2.mono hb1.size)).trans hb3
end Go.Proofs.YtkeeofhjdffhbaaGreatDoor
