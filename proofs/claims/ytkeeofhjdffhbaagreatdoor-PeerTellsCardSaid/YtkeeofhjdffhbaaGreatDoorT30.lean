/- Parts of the proof of pt_root: the texts Hpk4 Hpk5 Hpk6. -/
import Derived.IntWalk
import Derived.Test.YtkeeofhjdffhbaaGreatDoorT24
set_option linter.unusedSimpArgs false
set_option linter.unusedVariables false
set_option linter.unnecessarySimpa false
namespace Go.Proofs.YtkeeofhjdffhbaaGreatDoor
open Go.RowKit Go.Dr
set_option maxRecDepth 100000 in
set_option maxHeartbeats 4000000 in
/-- a number of one byte, behind flags of another -/
theorem TakeInt_byte {B : Nat} {v : Value} (bits k : Nat) (c : UInt8) (rest : Bytes) (hb : bits = 4 ∨ bits = 5 ∨ bits = 6 ∨ bits = 7) (hk : Go.bits .and .i64 (c.toNat : Int) ((2 ^ bits - 1 : Nat) : Int) = (k : Int)) (hk2 : k + 1 < 2 ^ bits) (w : World) (h : By B w v (c :: rest)) :
  Calls Tryz.prog 201 #[v, .int .i64 (bits : Int)] w fun e w' => e = .returned (.tuple #[.int .i64 (k : Int), .int .i64 1, .int .i64 0]) ∧ w' = w := by
 obtain ⟨a, cc, rfl, hc, hcm⟩ := h.form
 obtain ⟨b, off, rfl, hb0, x0⟩ := h.at 0 (by simp)
 have x1 : w.cell? ⟨b, off, none⟩ = some (.int .u8 (c.toNat : Int)) := x0
 have hcn := UInt8.toNat_lt c
 have hl : 0 < (c :: rest).length := by simp
 clear x0 h
 generalize (c :: rest).length = n at *
 rcases hb with rfl | rfl | rfl | rfl
 all_goals
  have hk3 : (k : Int) + 1 < ((2 ^ _ : Nat) : Int) := Int.ofNat_lt.2 hk2
  simp only [Nat.reducePow, Nat.reduceSub] at hk3
  first
   | (have hk' : Go.bits .and .i64 (c.toNat : Int) 15 = (k : Int) := hk;have hlt : (k : Int) < 15 := by omega)
   | (have hk' : Go.bits .and .i64 (c.toNat : Int) 31 = (k : Int) := hk;have hlt : (k : Int) < 31 := by omega)
   | (have hk' : Go.bits .and .i64 (c.toNat : Int) 63 = (k : Int) := hk;have hlt : (k : Int) < 63 := by omega)
   | (have hk' : Go.bits .and .i64 (c.toNat : Int) 127 = (k : Int) := hk;have hlt : (k : Int) < 127 := by omega)
  clear hk hk2 hk3
  go_enter Tryz.func201, Tryz.ntmps201
  go_wp2
  go_ret3
  exact ⟨rfl, rfl⟩
set_option maxRecDepth 100000 in
set_option maxHeartbeats 4000000 in
/-- the reader's number of one byte -/
theorem Number_byte {r B : Nat} {v dv fv cv hv : Value} (bits k : Nat) (c : UInt8) (rest : Bytes) (hb : bits = 4 ∨ bits = 5 ∨ bits = 6 ∨ bits = 7) (hk : Go.bits .and .i64 (c.toNat : Int) ((2 ^ bits - 1 : Nat) : Int) = (k : Int)) (hk2 : k + 1 < 2 ^ bits) (w : World) (hR : Blk w r 219 #[dv, v, fv, cv, hv]) (h : By B w v (c :: rest)) (hBr : B ≤ r) :
  Calls Tryz.prog 167 #[Ptr r, .int .i64 (bits : Int)] w fun e w' => e = .returned (.int .i64 (k : Int)) ∧ (∃ v', Blk w' r 219 #[dv, v', fv, cv, hv] ∧ By B w' v' rest) ∧ But (fun k => k = r) w w' := by
 have hT := TakeInt_byte bits k c rest hb hk hk2 w h
 obtain ⟨a2, c2, hB2, hs2⟩ := h.from 1 (by simp)
 have hB3 : By B (w.setCell ⟨r, 1, none⟩ (.slice a2 ((c :: rest).length - 1) c2)) (.slice a2 ((c :: rest).length - 1) c2) rest := hB2.below ((Below.refl B w).setCell (p := ⟨r, 1, none⟩) hBr _)
 have y1 : w.cell? ⟨r, 1, none⟩ = some v := hR.cell 1
 have f1 := hR.free 1
 have hkI : (k : Int) < 128 := by rcases hb with rfl | rfl | rfl | rfl <;> (simp at hk2;omega)
 have hwk : IntKind.i64.wrap (k : Int) = (k : Int) := IntWalk.i64_in _ (by omega)
 obtain ⟨av, cv2, rfl, hc, hcm⟩ := h.form
 simp only [Int.cast_ofNat_Int] at hs2
 clear hk hk2 hB2 h
 generalize (c :: rest).length = n at *
 generalize n - 1 = n1 at *
 go_enter Tryz.func167, Tryz.ntmps167
 go_wp2_with (go_at_call 201;go_must (refine hT.mono ?_);rintro e w2 ⟨rfl, rfl⟩)
 all_goals (go_ret;exact ⟨rfl, ⟨_, hR.set 1 _, hB3⟩, (But.refl (fun k => k = r) _).setCell (p := ⟨r, 1, none⟩) (.inl rfl) _⟩)
end Go.Proofs.YtkeeofhjdffhbaaGreatDoor
namespace Go.Proofs.YtkeeofhjdffhbaaGreatDoor
open Go.RowKit Go.Dr
set_option maxRecDepth 100000 in
set_option maxHeartbeats 4000000 in
/-- a text that is not written as bits -/
theorem TakeText_raw {B : Nat} {v : Value} (s rest : Bytes) (hs : s.length < 127) (w : World) (h : By B w v (UInt8.ofNat s.length :: (s ++ rest))) :
  Calls Tryz.prog 220 #[v] w fun e w' => e = .returned (.tuple #[S s, .int .i64 ((1 + s.length : Nat) : Int), .int .i64 0]) ∧ w' = w := by
 have hu : (UInt8.ofNat s.length).toNat = s.length := by simp;omega
 have hbt : Go.bits .and .i64 ((UInt8.ofNat s.length).toNat : Int) ((2 ^ 7 - 1 : Nat) : Int) = (s.length : Int) := by
  rw [hu, bits_and _ _ (by omega) (by decide)]
  have : s.length &&& 2 ^ 7 - 1 = s.length := by rw [Nat.and_two_pow_sub_one_eq_mod];omega
  rw [this]
 have hT := TakeInt_byte 7 s.length (UInt8.ofNat s.length) (s ++ rest) (.inr (.inr (.inr rfl))) hbt (by show s.length + 1 < 128;omega) w h
 obtain ⟨a2, c2, hB2, hs2⟩ := By.mid h 1 (1 + s.length) (by omega) (by simp;omega)
 have e2 : ((UInt8.ofNat s.length :: (s ++ rest)).take (1 + s.length)).drop 1 = s := by rw [Nat.add_comm, List.take_succ_cons];simp
 rw [e2] at hB2
 have hX := hB2.text (P := Tryz.prog) 26 9 5 Tryz.underlying26 (by kernel_rfl) Tryz.underlying9
 have hlen : ((UInt8.ofNat s.length :: (s ++ rest)).length : Int) ≥ 1 + s.length := by simp;omega
 obtain ⟨av, cv, rfl, hc, hcm⟩ := h.form
 obtain ⟨b, off, rfl, hb0, x0⟩ := h.at 0 (by simp)
 have x1 : w.cell? ⟨b, off, none⟩ = some (.int .u8 (s.length : Int)) := by
  have e : B8 (UInt8.ofNat s.length :: (s ++ rest))[0] = .int .u8 (s.length : Int) := by show Value.int .u8 _ = _;rw [List.getElem_cons_zero, hu]
  rw [← e]
  exact x0
 have e3 : 1 + s.length - 1 = s.length := by omega
 rw [e3] at hs2 hX
 have hw1 : IntKind.i64.wrap (s.length : Int) = (s.length : Int) := IntWalk.i64_in _ (by omega)
 have hw2 : IntKind.i64.wrap (1 + (s.length : Int)) = 1 + (s.length : Int) := IntWalk.i64_in _ (by omega)
 have hs3 : ∀ w' : World, (Instr.slice 26 (.slice (some ⟨b, off, none⟩) (UInt8.ofNat s.length :: (s ++ rest)).length cv) (some (.int .i64 1)) (some (.int .i64 (1 + (s.length : Int)))) none).run Tryz.prog w' = .ok (.slice a2 s.length c2) w' := fun w' => hs2 w'
 clear hs2 hB2 e2 e3 hu hbt x0 h
 generalize (UInt8.ofNat s.length :: (s ++ rest)).length = n at *
 go_enter Tryz.func220, Tryz.ntmps220
 go_wp2_with (go_at_call 201;go_must (refine hT.mono ?_);rintro e w2 ⟨rfl, rfl⟩)
 go_ret3
 exact ⟨rfl, rfl⟩
set_option maxRecDepth 100000 in
set_option maxHeartbeats 4000000 in
/-- the reader's text that is not written as bits -/
theorem Text_raw {r B : Nat} {v dv fv cv hv : Value} (s rest : Bytes) (hs : s.length < 127) (w : World) (hR : Blk w r 219 #[dv, v, fv, cv, hv]) (h : By B w v (UInt8.ofNat s.length :: (s ++ rest))) (hBr : B ≤ r) :
  Calls Tryz.prog 202 #[Ptr r] w fun e w' => e = .returned (S s) ∧ (∃ v', Blk w' r 219 #[dv, v', fv, cv, hv] ∧ By B w' v' rest) ∧ But (fun k => k = r) w w' := by
 have hT := TakeText_raw s rest hs w h
 obtain ⟨a2, c2, hB2, hs2⟩ := h.from (1 + s.length) (by simp;omega)
 have e2 : (UInt8.ofNat s.length :: (s ++ rest)).drop (1 + s.length) = rest := by rw [Nat.add_comm, List.drop_succ_cons];simp
 rw [e2] at hB2
 have hB3 : By B (w.setCell ⟨r, 1, none⟩ (.slice a2 ((UInt8.ofNat s.length :: (s ++ rest)).length - (1 + s.length)) c2)) (.slice a2 ((UInt8.ofNat s.length :: (s ++ rest)).length - (1 + s.length)) c2) rest := hB2.below ((Below.refl B w).setCell (p := ⟨r, 1, none⟩) hBr _)
 have y1 : w.cell? ⟨r, 1, none⟩ = some v := hR.cell 1
 have f1 := hR.free 1
 obtain ⟨av, cv2, rfl, hc, hcm⟩ := h.form
 clear hB2 h e2
 generalize (UInt8.ofNat s.length :: (s ++ rest)).length = n at *
 obtain ⟨q, hq⟩ : ∃ q, q = 1 + s.length := ⟨_, rfl⟩
 rw [← hq] at hT hs2 hB3
 clear hq
 generalize n - q = n1 at *
 go_enter Tryz.func202, Tryz.ntmps202
 go_wp2_with (go_at_call 220;go_must (refine hT.mono ?_);rintro e w2 ⟨rfl, rfl⟩)
 all_goals (go_ret;exact ⟨rfl, ⟨_, hR.set 1 _, hB3⟩, (But.refl (fun k => k = r) _).setCell (p := ⟨r, 1, none⟩) (.inl rfl) _⟩)
end Go.Proofs.YtkeeofhjdffhbaaGreatDoor
namespace Go.Proofs.YtkeeofhjdffhbaaGreatDoor
open Go.RowKit Go.Dr
set_option maxRecDepth 100000 in
set_option maxHeartbeats 4000000 in
/-- a field is put behind the others -/
theorem Put_any {r : Nat} {v dv hv fv : Value} {cost : Int} (l : List F) (f : F) (w : World) (base : Nat) (hR : Blk w r 219 #[dv, v, fv, .int .i64 cost, hv]) (hbr : r < base) (hbw : base ≤ w.heap.size) (ho : w.ownsRow base 41 3 fv l.length (fcells l)) (hfn : f.n.length ≤ 1048576) (hfv : f.v.length ≤ 1048576) (hc0 : 0 ≤ cost) (hc1 : cost ≤ 1099511627776) (hll : l.length ≤ 100000) :
  Calls Tryz.prog 165 #[Ptr r, .agg #[S f.n, S f.v, .bool f.m]] w fun e w' => e = .returned (.tuple #[]) ∧ ∃ a c, Blk w' r 219 #[dv, v, .slice a (l.length + 1) c, .int .i64 (cost + ((f.n.length : Int) + (f.v.length : Int) + 32)), hv] ∧ w'.ownsRow base 41 3 (.slice a (l.length + 1) c) (l.length + 1) (fcells (l ++ [f])) ∧ But (fun k => k = r ∨ base ≤ k) w w' := by
 obtain ⟨fa, fc, rfl⟩ := own_form ho
 obtain ⟨W, eW⟩ : ∃ W, W = w.alloc (.cells #[S f.n, S f.v, .bool f.m] 41) := ⟨_, rfl⟩
 have hb : Below w.heap.size w W := by rw [eW];exact (Below.refl _ _).alloc (Nat.le_refl _) _
 have hF : Blk W w.heap.size 41 #[S f.n, S f.v, .bool f.m] := by rw [eW];exact Blk.new _ _ _
 have hRW := hR.on hb
 have y3 : W.cell? ⟨r, 3, none⟩ = some (.int .i64 cost) := hRW.cell 3
 have f3 := hRW.free 3
 have g0 : W.cell? ⟨w.heap.size, 0, none⟩ = some (S f.n) := hF.cell 0
 have g1 : W.cell? ⟨w.heap.size, 1, none⟩ = some (S f.v) := hF.cell 1
 go_enter Tryz.func165, Tryz.ntmps165
 go_upto_region 1 with fail
 rw [← eW]
 clear eW
 go_region
 obtain ⟨W2, eW2⟩ : ∃ W2, W2 = (W.setCell ⟨r, 3, none⟩ (.int .i64 (cost + ((f.n.length : Int) + (f.v.length : Int) + 32)))).drew := ⟨_, rfl⟩
 have hrl := hR.lt
 have hWl := hF.lt
 have hWz := hb.size
 have hR2 : Blk W2 r 219 #[dv, v, .slice fa l.length fc, .int .i64 (cost + ((f.n.length : Int) + (f.v.length : Int) + 32)), hv] := by rw [eW2];exact (hRW.set 3 _).drew
 have hF2 : Blk W2 w.heap.size 41 #[S f.n, S f.v, .bool f.m] := by rw [eW2];exact (hF.other (p := ⟨r, 3, none⟩) (by show w.heap.size ≠ r;omega) _).drew
 have ho2 : W2.ownsRow base 41 3 (.slice fa l.length fc) l.length (fcells l) := by rw [eW2];exact own_dr (ownsRow_setCell_below (own_below ho hb) hbr _)
 have hu2 : But (fun k => k = r ∨ base ≤ k) w W2 := by rw [eW2];exact ((But.of_below (S := fun k => k = r ∨ base ≤ k) hb).setCell (p := ⟨r, 3, none⟩) (.inl (.inl rfl)) _).drew
 have x2 : W2.cell? ⟨r, 2, none⟩ = some (.slice fa l.length fc) := hR2.cell 2
 have x2a : ∀ ob, (W2.alloc ob).cell? ⟨r, 2, none⟩ = some (.slice fa l.length fc) := fun ob => (hR2.alloc ob).cell 2
 have k0 : W2.cell? ⟨w.heap.size, 0, none⟩ = some (S f.n) := hF2.cell 0
 have k1 : W2.cell? ⟨w.heap.size, 1, none⟩ = some (S f.v) := hF2.cell 1
 have k2 : W2.cell? ⟨w.heap.size, 2, none⟩ = some (.bool f.m) := hF2.cell 2
 have hz2 := hu2.size
 go_upto_region 2 with fail
 rw [← eW2]
 clear eW2 y3 f3 g0 g1 hRW hF ho hR
 go_region_law (refine step_of ?_ (by rfl);refine wp_appG _ _ 42 rfl base 41 (.agg #[.string ByteArray.empty, .string ByteArray.empty, .bool false]) 3 40 Tryz.underlying42 (by kernel_rfl) rfl (by decide) _ _ _ rfl (own_dr (ho2.alloc _)) _ _ _ [S f.n, S f.v, .bool f.m] rfl (Rd.drew (Rd.lit W2 41 #[S f.n, S f.v, .bool f.m] 3 1 rfl (by decide))) (by intro u hu;simp at hu;rcases hu with rfl | rfl | rfl <;> rfl) (by unfold maxLen;omega) (by omega) (by simp;omega) ?_;intro a3 c3 w3 hown3 hb3 hg3;have hR3 := (hR2.alloc (.cells #[S f.n, S f.v, .bool f.m] 41)).drew.below hb3 hbr;have z2 : w3.cell? ⟨r, 2, none⟩ = some (.slice fa l.length fc) := hR3.cell 2;have zf := hR3.free 2)
 all_goals (
  go_wp2
  go_end0
  exact ⟨rfl, a3, c3, hR3.set 2 _, (by rw [fcells_append];exact ownsRow_setCell_below hown3 hbr _), ((hu2.trans (((But.refl (fun k => k = r ∨ base ≤ k) W2).alloc _).drew)).trans ⟨hb3.os, hb3.tape, hb3.output, hb3.size, fun i _ hS => hb3.block i (by omega)⟩).setCell (p := ⟨r, 2, none⟩) (.inl (.inl rfl)) _⟩)
end Go.Proofs.YtkeeofhjdffhbaaGreatDoor
