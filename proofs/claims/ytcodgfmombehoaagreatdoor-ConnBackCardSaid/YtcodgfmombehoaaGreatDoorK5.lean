/- Parts of the proof of bk_root: the texts Frm5 Frm6 Chp. -/
import Derived.LoopIn
import Derived.LoopNIn
import Derived.OwnWalkIn
import Derived.RangeFuncBound
import Derived.RangeFuncCalls
import Derived.RangeFuncLeaves
import Derived.RangeFuncNested
import Derived.TacticsInMore
import Derived.Test.YtcodgfmombehoaaGreatDoorK4
set_option linter.unusedSimpArgs false
set_option linter.unusedVariables false
set_option linter.unnecessarySimpa false
set_option maxRecDepth 100000
set_option maxHeartbeats 64000000
namespace Go.Proofs.YtcodgfmombehoaaGreatDoor
open Go.RowKit Go.Dr
theorem By.upto {B : Nat} {w : World} {v : Value} {l : Bytes} (h : By B w v l) (k : Nat) (hk : k ≤ l.length) :
  ∃ a c, By B w (.slice a k c) (l.take k) ∧ ∀ w', (Instr.slice 39 v none (some (.int .i64 (k : Int))) none).run Tryz.prog w' = .ok (.slice a k c) w' := by
 obtain ⟨a, cap, rfl, hc, hcm⟩ := h.form;have hD := Rd.upto h (k := k) hk;have hs : Tryz.prog.cellsOf 5 = 1 := (by kernel_rfl);have he : Tryz.prog.elem 39 = 5 := (by kernel_rfl);obtain ⟨i, hi⟩ := info_of_underlying Tryz.underlying5;refine ⟨a, cap, ?_, fun w' => ?_⟩
 ·unfold By
  rw [List.length_take, Nat.min_eq_left hk, List.map_take];rwa [Nat.mul_one] at hD
 ·rw [run_slice_h w' 39 a l.length cap (by rw [he];exact Tryz.underlying39) .i64 (k : Int) (by omega) (by omega), he, run_sizeOf w' hi, hs]
  simp [Result.andThen, sliced, Addr.add_lit]
  cases a <;> simp [Addr.add]
def dhF (ty fl st : Nat) (p : Bytes) : Option Fr :=
 let pd := fl &&& 8 != 0
 let pr := ty == 1 && fl &&& 32 != 0
 let p1 := if pd then p.drop 1 else p
 let pad := if pd then (p.headD 0).toNat else 0
 let p2 := if pr then p1.drop 5 else p1
 if p2.length < pad then none
 else some { ty := ty, fl := fl, st := st, pad := pad, data := p2.take (p2.length - pad), dep := if pr then numF p1 0 % 2147483648 else 0, wt := if pr then ((p1.drop 4).headD 0).toNat else 0, sole := pr && decide (2147483647 < numF p1 0) }
theorem headD_at (l : Bytes) (k : Nat) (h : k < l.length) : (l.drop k).headD 0 = l[k] := by
 rw [drop_get l k h];rfl
theorem headD_0 (l : Bytes) (h : 0 < l.length) : l.headD 0 = l[0] := headD_at l 0 h
theorem open_dh000 {B b : Nat} (fl st : Nat) (p : Bytes) (v : Value) (w : World) (h : By B w v p) (hb : Blk w b 36 (zc 0 fl st)) (hfl : fl < 256) (h8 : (fl &&& 8 != 0) = false) (hl : 0 ≤ p.length) (hBb : B ≤ b) :
  Calls Tryz.prog 117 #[Ptr b, v] w (Opened w b (dhF 0 fl st p)) := by
 have g8 := (flgs fl hfl).2.2.1;rw [h8] at g8;have y0 : w.cell? ⟨b, 0, none⟩ = some (.int .i64 0) := hb.cell 0;have y1 : w.cell? ⟨b, 1, none⟩ = some (.int .i64 (fl : Int)) := hb.cell 1;have y3 : w.cell? ⟨b, 3, none⟩ = some (S []) := hb.cell 3;have y4 : w.cell? ⟨b, 4, none⟩ = some (.int .i64 0) := hb.cell 4;have f3 := hb.free 3;have f4 := hb.free 4;obtain ⟨a0, cap0, rfl, hc0, hcm0⟩ := h.form
 have hw : dhF 0 fl st p = (if p.length < 0 then none else some { ty := 0, fl := fl, st := st, pad := 0, data := p.take (p.length - 0) }) := by
  simp only [dhF, h8];rfl
 rw [hw];clear hw;have hn1 : 0 ≤ p.length := Nat.zero_le _;have hB1 : Below B w w := Below.refl _ _;have hb1 := hb;have hu1 : But (fun k => k = b) w w := But.refl _ _;have hd1 := h.below hB1;have hD2 := hd1;clear h8  hd1;have hp2l : p.length ≤ 9223372036854775807 := (by have := Rd.len hD2;unfold maxLen at this;omega);rw [if_neg (by omega)];obtain ⟨a3, c3, hD3, hs3⟩ := hD2.upto p.length (Nat.le_refl _);rw [List.take_length] at hD3;rw [Nat.sub_zero, List.take_length];replace hs3 := fun w' => (show (Instr.slice 39 (.slice a0 p.length cap0) none (some (.int .i64 (p.length : Int))) none).run Tryz.prog w' = .ok (.slice a3 p.length c3) w' from hs3 w')
 go_enter Tryz.func117, Tryz.ntmps117
 go_upto_region 30 with fail;have hS := hD3.text (P := Tryz.prog) 39 9 5 Tryz.underlying39 Tryz.underlying5 Tryz.underlying9;go_wp2;go_ret;exact ⟨hu1.setCell (p := ⟨b, 3, none⟩) (.inl rfl) _, rfl, _, hb1.set 3 _, World.ownsRow_nil _ _ _ _⟩
theorem open_dh010 {B b : Nat} (fl st : Nat) (p : Bytes) (v : Value) (w : World) (h : By B w v p) (hb : Blk w b 36 (zc 0 fl st)) (hfl : fl < 256) (h8 : (fl &&& 8 != 0) = true) (hl : 1 ≤ p.length) (hBb : B ≤ b) :
  Calls Tryz.prog 117 #[Ptr b, v] w (Opened w b (dhF 0 fl st p)) := by
 have g8 := (flgs fl hfl).2.2.1;rw [h8] at g8;have y0 : w.cell? ⟨b, 0, none⟩ = some (.int .i64 0) := hb.cell 0;have y1 : w.cell? ⟨b, 1, none⟩ = some (.int .i64 (fl : Int)) := hb.cell 1;have y3 : w.cell? ⟨b, 3, none⟩ = some (S []) := hb.cell 3;have y4 : w.cell? ⟨b, 4, none⟩ = some (.int .i64 0) := hb.cell 4;have f3 := hb.free 3;have f4 := hb.free 4;obtain ⟨a0, cap0, rfl, hc0, hcm0⟩ := h.form;have hl1 : 0 < p.length := (by omega);obtain ⟨b0, off0, rfl, -, x0⟩ := h.at 0 hl1;have ehd := headD_0 p hl1;obtain ⟨a1, c1, hD1, hs1⟩ := h.from 1 hl1
 replace hs1 := fun w' => (show (Instr.slice 39 (.slice (some ⟨b0, off0, none⟩) p.length cap0) (some (.int .i64 1)) none none).run Tryz.prog w' = .ok (.slice a1 (p.length - 1) c1) w' from hs1 w')
 obtain ⟨q, hq⟩ : ∃ q, q = (p[0]'hl1).toNat := ⟨_, rfl⟩;have hq2 : q < 256 := (by rw [hq];exact UInt8.toNat_lt _);have x0' : w.cell? ⟨b0, off0, none⟩ = some (.int .u8 (q : Int)) := (by rw [hq];exact x0)
 have hpe : (p.headD 0).toNat = q := (by rw [ehd, hq]);have tq : IntKind.i64.wrap (q : Int) = (q : Int) := IntWalk.i64_in _ (by omega);clear x0 hq ehd;obtain ⟨p1, ep1⟩ : ∃ p1, p1 = p.drop 1 := ⟨_, rfl⟩;have ep1l : p1.length = p.length - 1 := (by rw [ep1, List.length_drop]);rw [← ep1] at hD1;rw [← ep1l] at hD1 hs1
 have hw : dhF 0 fl st p = (if p1.length < q then none else some { ty := 0, fl := fl, st := st, pad := q, data := p1.take (p1.length - q) }) := by
  simp only [dhF, h8, hpe, ← ep1];rfl
 rw [hw];clear hw;have hn1 : 0 ≤ p1.length := Nat.zero_le _;have hB1 : Below B w (w.setCell ⟨b, 4, none⟩ (.int .i64 (q : Int))).drew := ((Below.refl _ _).setCell (p := ⟨b, 4, none⟩) hBb _).drew;have hb1 : Blk (w.setCell ⟨b, 4, none⟩ (.int .i64 (q : Int))).drew b 36 #[(.int .i64 (0 : Nat)), (.int .i64 (fl : Nat)), (.int .i64 (st : Nat)), (S []), (.int .i64 (q : Nat)), (.slice none 0 0), (.int .i64 0), (.int .i64 0), (.int .i64 0), (.int .i64 0), (.int .i64 0), (.bool false)] := hb.set 4 _;have hu1 : But (fun k => k = b) w (w.setCell ⟨b, 4, none⟩ (.int .i64 (q : Int))).drew := ((But.refl (fun k => k = b) w).setCell (p := ⟨b, 4, none⟩) (.inl rfl) _).drew;obtain ⟨W1, eW1⟩ : ∃ W1, W1 = (w.setCell ⟨b, 4, none⟩ (.int .i64 (q : Int))).drew := ⟨_, rfl⟩;rw [← eW1] at hB1 hb1 hu1;have z0 : W1.cell? ⟨b, 0, none⟩ = some (.int .i64 0) := hb1.cell 0;have z1 : W1.cell? ⟨b, 1, none⟩ = some (.int .i64 (fl : Int)) := hb1.cell 1;have z3 : W1.cell? ⟨b, 3, none⟩ = some (S []) := hb1.cell 3;have z4 : W1.cell? ⟨b, 4, none⟩ = some (.int .i64 (q : Int)) := hb1.cell 4;have zf3 := hb1.free 3;have hd1 := hD1.below hB1;have hD2 := hd1;clear h8  hd1 ep1 ep1l;by_cases hov : p1.length < q
 ·rw [if_pos hov]
  have t0 : decide ((p1.length : Int) < (q : Int)) = true := (by simpa using hov);have t1 : decide (p1.length < q) = true := (by simpa using hov);go_enter Tryz.func117, Tryz.ntmps117
  go_upto_region 5 with fail
  go_region_with (fail)
  rw [← eW1];clear eW1;go_wp2_with fail;go_ret;exact ⟨hu1, rfl⟩
 ·rw [if_neg hov]
  have t0 : decide ((p1.length : Int) < (q : Int)) = false := (by simp;omega);have t1 : decide (p1.length < q) = false := (by simpa using hov);obtain ⟨a3, c3, hD3, hs3⟩ := hD2.upto (p1.length - q) (by omega);have e3 : ((p1.length - q : Nat) : Int) = (p1.length : Int) - (q : Int) := (by omega);rw [e3] at hs3;have tw : IntKind.i64.wrap ((p1.length : Int) - (q : Int)) = (p1.length : Int) - (q : Int) := IntWalk.i64_in _ (by have := Rd.len hD2;unfold maxLen at this;omega);clear e3;go_enter Tryz.func117, Tryz.ntmps117
  go_upto_region 5 with fail
  go_region_with (fail)
  rw [← eW1];clear eW1;go_upto_region 30 with fail;have hS := hD3.text (P := Tryz.prog) 39 9 5 Tryz.underlying39 Tryz.underlying5 Tryz.underlying9;go_wp2;go_ret;exact ⟨hu1.setCell (p := ⟨b, 3, none⟩) (.inl rfl) _, rfl, _, hb1.set 3 _, World.ownsRow_nil _ _ _ _⟩
theorem open_dh100 {B b : Nat} (fl st : Nat) (p : Bytes) (v : Value) (w : World) (h : By B w v p) (hb : Blk w b 36 (zc 1 fl st)) (hfl : fl < 256) (h8 : (fl &&& 8 != 0) = false) (h32 : (fl &&& 32 != 0) = false) (hl : 0 ≤ p.length) (hBb : B ≤ b) :
  Calls Tryz.prog 117 #[Ptr b, v] w (Opened w b (dhF 1 fl st p)) := by
 have g8 := (flgs fl hfl).2.2.1;rw [h8] at g8;have g32 := (flgs fl hfl).2.2.2;rw [h32] at g32;have y0 : w.cell? ⟨b, 0, none⟩ = some (.int .i64 1) := hb.cell 0;have y1 : w.cell? ⟨b, 1, none⟩ = some (.int .i64 (fl : Int)) := hb.cell 1;have y3 : w.cell? ⟨b, 3, none⟩ = some (S []) := hb.cell 3;have y4 : w.cell? ⟨b, 4, none⟩ = some (.int .i64 0) := hb.cell 4;have f3 := hb.free 3;have f4 := hb.free 4;obtain ⟨a0, cap0, rfl, hc0, hcm0⟩ := h.form
 have hw : dhF 1 fl st p = (if p.length < 0 then none else some { ty := 1, fl := fl, st := st, pad := 0, data := p.take (p.length - 0) }) := by
  simp only [dhF, h8, h32];rfl
 rw [hw];clear hw;have hn1 : 0 ≤ p.length := Nat.zero_le _;have hB1 : Below B w w := Below.refl _ _;have hb1 := hb;have hu1 : But (fun k => k = b) w w := But.refl _ _;have hd1 := h.below hB1;have hD2 := hd1;clear h8 h32 hd1;have hp2l : p.length ≤ 9223372036854775807 := (by have := Rd.len hD2;unfold maxLen at this;omega);rw [if_neg (by omega)];obtain ⟨a3, c3, hD3, hs3⟩ := hD2.upto p.length (Nat.le_refl _);rw [List.take_length] at hD3;rw [Nat.sub_zero, List.take_length];replace hs3 := fun w' => (show (Instr.slice 39 (.slice a0 p.length cap0) none (some (.int .i64 (p.length : Int))) none).run Tryz.prog w' = .ok (.slice a3 p.length c3) w' from hs3 w')
 go_enter Tryz.func117, Tryz.ntmps117
 go_upto_region 30 with fail;have hS := hD3.text (P := Tryz.prog) 39 9 5 Tryz.underlying39 Tryz.underlying5 Tryz.underlying9;go_wp2;go_ret;exact ⟨hu1.setCell (p := ⟨b, 3, none⟩) (.inl rfl) _, rfl, _, hb1.set 3 _, World.ownsRow_nil _ _ _ _⟩
theorem open_dh110 {B b : Nat} (fl st : Nat) (p : Bytes) (v : Value) (w : World) (h : By B w v p) (hb : Blk w b 36 (zc 1 fl st)) (hfl : fl < 256) (h8 : (fl &&& 8 != 0) = true) (h32 : (fl &&& 32 != 0) = false) (hl : 1 ≤ p.length) (hBb : B ≤ b) :
  Calls Tryz.prog 117 #[Ptr b, v] w (Opened w b (dhF 1 fl st p)) := by
 have g8 := (flgs fl hfl).2.2.1;rw [h8] at g8;have g32 := (flgs fl hfl).2.2.2;rw [h32] at g32;have y0 : w.cell? ⟨b, 0, none⟩ = some (.int .i64 1) := hb.cell 0;have y1 : w.cell? ⟨b, 1, none⟩ = some (.int .i64 (fl : Int)) := hb.cell 1;have y3 : w.cell? ⟨b, 3, none⟩ = some (S []) := hb.cell 3;have y4 : w.cell? ⟨b, 4, none⟩ = some (.int .i64 0) := hb.cell 4;have f3 := hb.free 3;have f4 := hb.free 4;obtain ⟨a0, cap0, rfl, hc0, hcm0⟩ := h.form;have hl1 : 0 < p.length := (by omega);obtain ⟨b0, off0, rfl, -, x0⟩ := h.at 0 hl1;have ehd := headD_0 p hl1;obtain ⟨a1, c1, hD1, hs1⟩ := h.from 1 hl1
 replace hs1 := fun w' => (show (Instr.slice 39 (.slice (some ⟨b0, off0, none⟩) p.length cap0) (some (.int .i64 1)) none none).run Tryz.prog w' = .ok (.slice a1 (p.length - 1) c1) w' from hs1 w')
 obtain ⟨q, hq⟩ : ∃ q, q = (p[0]'hl1).toNat := ⟨_, rfl⟩;have hq2 : q < 256 := (by rw [hq];exact UInt8.toNat_lt _);have x0' : w.cell? ⟨b0, off0, none⟩ = some (.int .u8 (q : Int)) := (by rw [hq];exact x0)
 have hpe : (p.headD 0).toNat = q := (by rw [ehd, hq]);have tq : IntKind.i64.wrap (q : Int) = (q : Int) := IntWalk.i64_in _ (by omega);clear x0 hq ehd;obtain ⟨p1, ep1⟩ : ∃ p1, p1 = p.drop 1 := ⟨_, rfl⟩;have ep1l : p1.length = p.length - 1 := (by rw [ep1, List.length_drop]);rw [← ep1] at hD1;rw [← ep1l] at hD1 hs1
 have hw : dhF 1 fl st p = (if p1.length < q then none else some { ty := 1, fl := fl, st := st, pad := q, data := p1.take (p1.length - q) }) := by
  simp only [dhF, h8, h32, hpe, ← ep1];rfl
 rw [hw];clear hw;have hn1 : 0 ≤ p1.length := Nat.zero_le _;have hB1 : Below B w (w.setCell ⟨b, 4, none⟩ (.int .i64 (q : Int))).drew := ((Below.refl _ _).setCell (p := ⟨b, 4, none⟩) hBb _).drew;have hb1 : Blk (w.setCell ⟨b, 4, none⟩ (.int .i64 (q : Int))).drew b 36 #[(.int .i64 (1 : Nat)), (.int .i64 (fl : Nat)), (.int .i64 (st : Nat)), (S []), (.int .i64 (q : Nat)), (.slice none 0 0), (.int .i64 0), (.int .i64 0), (.int .i64 0), (.int .i64 0), (.int .i64 0), (.bool false)] := hb.set 4 _;have hu1 : But (fun k => k = b) w (w.setCell ⟨b, 4, none⟩ (.int .i64 (q : Int))).drew := ((But.refl (fun k => k = b) w).setCell (p := ⟨b, 4, none⟩) (.inl rfl) _).drew;obtain ⟨W1, eW1⟩ : ∃ W1, W1 = (w.setCell ⟨b, 4, none⟩ (.int .i64 (q : Int))).drew := ⟨_, rfl⟩;rw [← eW1] at hB1 hb1 hu1;have z0 : W1.cell? ⟨b, 0, none⟩ = some (.int .i64 1) := hb1.cell 0;have z1 : W1.cell? ⟨b, 1, none⟩ = some (.int .i64 (fl : Int)) := hb1.cell 1;have z3 : W1.cell? ⟨b, 3, none⟩ = some (S []) := hb1.cell 3;have z4 : W1.cell? ⟨b, 4, none⟩ = some (.int .i64 (q : Int)) := hb1.cell 4;have zf3 := hb1.free 3;have hd1 := hD1.below hB1;have hD2 := hd1;clear h8 h32 hd1 ep1 ep1l;by_cases hov : p1.length < q
 ·rw [if_pos hov]
  have t0 : decide ((p1.length : Int) < (q : Int)) = true := (by simpa using hov);have t1 : decide (p1.length < q) = true := (by simpa using hov);go_enter Tryz.func117, Tryz.ntmps117
  go_upto_region 5 with fail
  go_region_with (fail)
  rw [← eW1];clear eW1;go_wp2_with fail;go_ret;exact ⟨hu1, rfl⟩
 ·rw [if_neg hov]
  have t0 : decide ((p1.length : Int) < (q : Int)) = false := (by simp;omega);have t1 : decide (p1.length < q) = false := (by simpa using hov);obtain ⟨a3, c3, hD3, hs3⟩ := hD2.upto (p1.length - q) (by omega);have e3 : ((p1.length - q : Nat) : Int) = (p1.length : Int) - (q : Int) := (by omega);rw [e3] at hs3;have tw : IntKind.i64.wrap ((p1.length : Int) - (q : Int)) = (p1.length : Int) - (q : Int) := IntWalk.i64_in _ (by have := Rd.len hD2;unfold maxLen at this;omega);clear e3;go_enter Tryz.func117, Tryz.ntmps117
  go_upto_region 5 with fail
  go_region_with (fail)
  rw [← eW1];clear eW1;go_upto_region 30 with fail;have hS := hD3.text (P := Tryz.prog) 39 9 5 Tryz.underlying39 Tryz.underlying5 Tryz.underlying9;go_wp2;go_ret;exact ⟨hu1.setCell (p := ⟨b, 3, none⟩) (.inl rfl) _, rfl, _, hb1.set 3 _, World.ownsRow_nil _ _ _ _⟩
theorem open_dh101 {B b : Nat} (fl st : Nat) (p : Bytes) (v : Value) (w : World) (h : By B w v p) (hb : Blk w b 36 (zc 1 fl st)) (hfl : fl < 256) (h8 : (fl &&& 8 != 0) = false) (h32 : (fl &&& 32 != 0) = true) (hl : 5 ≤ p.length) (hBb : B ≤ b) :
  Calls Tryz.prog 117 #[Ptr b, v] w (Opened w b (dhF 1 fl st p)) := by
 have g8 := (flgs fl hfl).2.2.1;rw [h8] at g8;have g32 := (flgs fl hfl).2.2.2;rw [h32] at g32;have y0 : w.cell? ⟨b, 0, none⟩ = some (.int .i64 1) := hb.cell 0;have y1 : w.cell? ⟨b, 1, none⟩ = some (.int .i64 (fl : Int)) := hb.cell 1;have y3 : w.cell? ⟨b, 3, none⟩ = some (S []) := hb.cell 3;have y4 : w.cell? ⟨b, 4, none⟩ = some (.int .i64 0) := hb.cell 4;have f3 := hb.free 3;have f4 := hb.free 4;obtain ⟨a0, cap0, rfl, hc0, hcm0⟩ := h.form
 have hw : dhF 1 fl st p = (if (p.drop 5).length < 0 then none else some { ty := 1, fl := fl, st := st, pad := 0, data := (p.drop 5).take ((p.drop 5).length - 0), dep := numF p 0 % 2147483648, wt := ((p.drop 4).headD 0).toNat, sole := decide (2147483647 < numF p 0) }) := by
  simp only [dhF, h8, h32];rfl
 rw [hw];clear hw;have hn1 : 0 ≤ p.length := Nat.zero_le _;have hB1 : Below B w w := Below.refl _ _;have hb1 := hb;have hu1 : But (fun k => k = b) w w := But.refl _ _;have hd1 := h.below hB1;have hl5 : 5 ≤ p.length := (by omega);have hP := Place_any p _ w hd1 hl5 hb1;obtain ⟨a2, c2, hD2, hs2⟩ := hd1.from 5 hl5
 replace hs2 := fun w' => (show (Instr.slice 39 (.slice a0 p.length cap0) (some (.int .i64 5)) none none).run Tryz.prog w' = .ok (.slice a2 (p.length - 5) c2) w' from hs2 w')
 have ewt := headD_at p 4 hl5;rw [ewt];obtain ⟨p2, ep2⟩ : ∃ p2, p2 = p.drop 5 := ⟨_, rfl⟩;have ep2l : p2.length = p.length - 5 := (by rw [ep2, List.length_drop]);rw [← ep2] at hD2 ⊢;rw [← ep2l] at hD2 hs2;clear ewt ep2 ep2l hn1;clear h8 h32 hd1;have hp2l : p2.length ≤ 9223372036854775807 := (by have := Rd.len hD2;unfold maxLen at this;omega);rw [if_neg (by omega)];obtain ⟨a3, c3, hD3, hs3⟩ := hD2.upto p2.length (Nat.le_refl _);rw [List.take_length] at hD3;rw [Nat.sub_zero, List.take_length];replace hs3 := fun w' => (show (Instr.slice 39 (.slice a2 p2.length c2) none (some (.int .i64 (p2.length : Int))) none).run Tryz.prog w' = .ok (.slice a3 p2.length c3) w' from hs3 w')
 go_enter Tryz.func117, Tryz.ntmps117
 go_upto_region 30 with (go_at_call 138;refine hP.mono ?_;rintro e w5 ⟨rfl, hb5, hu5⟩;have hu6 := hu1.trans hu5;have x4 : w5.cell? ⟨b, 4, none⟩ = some (.int .i64 0) := hb5.cell 4;have x3 : w5.cell? ⟨b, 3, none⟩ = some (S []) := hb5.cell 3;have g3 := hb5.free 3;have hB5 : Below B w w5 := hu5.below (fun _ e => by rw [e];exact hBb) (by have := hb1.lt;omega))
 have hS := (hD3.below hB5).text (P := Tryz.prog) 39 9 5 Tryz.underlying39 Tryz.underlying5 Tryz.underlying9;go_wp2;go_ret;exact ⟨hu6.setCell (p := ⟨b, 3, none⟩) (.inl rfl) _, rfl, _, hb5.set 3 _, World.ownsRow_nil _ _ _ _⟩
theorem open_dh111 {B b : Nat} (fl st : Nat) (p : Bytes) (v : Value) (w : World) (h : By B w v p) (hb : Blk w b 36 (zc 1 fl st)) (hfl : fl < 256) (h8 : (fl &&& 8 != 0) = true) (h32 : (fl &&& 32 != 0) = true) (hl : 6 ≤ p.length) (hBb : B ≤ b) :
  Calls Tryz.prog 117 #[Ptr b, v] w (Opened w b (dhF 1 fl st p)) := by
 have g8 := (flgs fl hfl).2.2.1;rw [h8] at g8;have g32 := (flgs fl hfl).2.2.2;rw [h32] at g32;have y0 : w.cell? ⟨b, 0, none⟩ = some (.int .i64 1) := hb.cell 0;have y1 : w.cell? ⟨b, 1, none⟩ = some (.int .i64 (fl : Int)) := hb.cell 1;have y3 : w.cell? ⟨b, 3, none⟩ = some (S []) := hb.cell 3;have y4 : w.cell? ⟨b, 4, none⟩ = some (.int .i64 0) := hb.cell 4;have f3 := hb.free 3;have f4 := hb.free 4;obtain ⟨a0, cap0, rfl, hc0, hcm0⟩ := h.form;have hl1 : 0 < p.length := (by omega);obtain ⟨b0, off0, rfl, -, x0⟩ := h.at 0 hl1;have ehd := headD_0 p hl1;obtain ⟨a1, c1, hD1, hs1⟩ := h.from 1 hl1
 replace hs1 := fun w' => (show (Instr.slice 39 (.slice (some ⟨b0, off0, none⟩) p.length cap0) (some (.int .i64 1)) none none).run Tryz.prog w' = .ok (.slice a1 (p.length - 1) c1) w' from hs1 w')
 obtain ⟨q, hq⟩ : ∃ q, q = (p[0]'hl1).toNat := ⟨_, rfl⟩;have hq2 : q < 256 := (by rw [hq];exact UInt8.toNat_lt _);have x0' : w.cell? ⟨b0, off0, none⟩ = some (.int .u8 (q : Int)) := (by rw [hq];exact x0)
 have hpe : (p.headD 0).toNat = q := (by rw [ehd, hq]);have tq : IntKind.i64.wrap (q : Int) = (q : Int) := IntWalk.i64_in _ (by omega);clear x0 hq ehd;obtain ⟨p1, ep1⟩ : ∃ p1, p1 = p.drop 1 := ⟨_, rfl⟩;have ep1l : p1.length = p.length - 1 := (by rw [ep1, List.length_drop]);rw [← ep1] at hD1;rw [← ep1l] at hD1 hs1
 have hw : dhF 1 fl st p = (if (p1.drop 5).length < q then none else some { ty := 1, fl := fl, st := st, pad := q, data := (p1.drop 5).take ((p1.drop 5).length - q), dep := numF p1 0 % 2147483648, wt := ((p1.drop 4).headD 0).toNat, sole := decide (2147483647 < numF p1 0) }) := by
  simp only [dhF, h8, h32, hpe, ← ep1];rfl
 rw [hw];clear hw;have hn1 : 0 ≤ p1.length := Nat.zero_le _;have hB1 : Below B w (w.setCell ⟨b, 4, none⟩ (.int .i64 (q : Int))).drew := ((Below.refl _ _).setCell (p := ⟨b, 4, none⟩) hBb _).drew;have hb1 : Blk (w.setCell ⟨b, 4, none⟩ (.int .i64 (q : Int))).drew b 36 #[(.int .i64 (1 : Nat)), (.int .i64 (fl : Nat)), (.int .i64 (st : Nat)), (S []), (.int .i64 (q : Nat)), (.slice none 0 0), (.int .i64 0), (.int .i64 0), (.int .i64 0), (.int .i64 0), (.int .i64 0), (.bool false)] := hb.set 4 _;have hu1 : But (fun k => k = b) w (w.setCell ⟨b, 4, none⟩ (.int .i64 (q : Int))).drew := ((But.refl (fun k => k = b) w).setCell (p := ⟨b, 4, none⟩) (.inl rfl) _).drew;obtain ⟨W1, eW1⟩ : ∃ W1, W1 = (w.setCell ⟨b, 4, none⟩ (.int .i64 (q : Int))).drew := ⟨_, rfl⟩;rw [← eW1] at hB1 hb1 hu1;have z0 : W1.cell? ⟨b, 0, none⟩ = some (.int .i64 1) := hb1.cell 0;have z1 : W1.cell? ⟨b, 1, none⟩ = some (.int .i64 (fl : Int)) := hb1.cell 1;have z3 : W1.cell? ⟨b, 3, none⟩ = some (S []) := hb1.cell 3;have z4 : W1.cell? ⟨b, 4, none⟩ = some (.int .i64 (q : Int)) := hb1.cell 4;have zf3 := hb1.free 3;have hd1 := hD1.below hB1;have hl5 : 5 ≤ p1.length := (by rw [ep1l];omega);have hP := Place_any p1 _ W1 hd1 hl5 hb1;obtain ⟨a2, c2, hD2, hs2⟩ := hd1.from 5 hl5
 replace hs2 := fun w' => (show (Instr.slice 39 (.slice a1 p1.length c1) (some (.int .i64 5)) none none).run Tryz.prog w' = .ok (.slice a2 (p1.length - 5) c2) w' from hs2 w')
 have ewt := headD_at p1 4 hl5;rw [ewt];obtain ⟨p2, ep2⟩ : ∃ p2, p2 = p1.drop 5 := ⟨_, rfl⟩;have ep2l : p2.length = p1.length - 5 := (by rw [ep2, List.length_drop]);rw [← ep2] at hD2 ⊢;rw [← ep2l] at hD2 hs2;clear ewt ep2 ep2l hn1;clear h8 h32 hd1 ep1 ep1l;by_cases hov : p2.length < q
 ·rw [if_pos hov]
  have t0 : decide ((p2.length : Int) < (q : Int)) = true := (by simpa using hov);have t1 : decide (p2.length < q) = true := (by simpa using hov);go_enter Tryz.func117, Tryz.ntmps117
  go_upto_region 5 with fail
  go_region_with (fail)
  rw [← eW1];clear eW1;go_wp2_with (go_at_call 138;refine hP.mono ?_;rintro e w5 ⟨rfl, hb5, hu5⟩;have hu6 := hu1.trans hu5;have x4 : w5.cell? ⟨b, 4, none⟩ = some (.int .i64 (q : Nat)) := hb5.cell 4;have x3 : w5.cell? ⟨b, 3, none⟩ = some (S []) := hb5.cell 3;have g3 := hb5.free 3;have hB5 : Below B W1 w5 := hu5.below (fun _ e => by rw [e];exact hBb) (by have := hb1.lt;omega))
  go_ret;exact ⟨hu6, rfl⟩
 ·rw [if_neg hov]
  have t0 : decide ((p2.length : Int) < (q : Int)) = false := (by simp;omega);have t1 : decide (p2.length < q) = false := (by simpa using hov);obtain ⟨a3, c3, hD3, hs3⟩ := hD2.upto (p2.length - q) (by omega);have e3 : ((p2.length - q : Nat) : Int) = (p2.length : Int) - (q : Int) := (by omega);rw [e3] at hs3;have tw : IntKind.i64.wrap ((p2.length : Int) - (q : Int)) = (p2.length : Int) - (q : Int) := IntWalk.i64_in _ (by have := Rd.len hD2;unfold maxLen at this;omega);clear e3;go_enter Tryz.func117, Tryz.ntmps117
  go_upto_region 5 with fail
  go_region_with (fail)
  rw [← eW1];clear eW1;go_upto_region 30 with (go_at_call 138;refine hP.mono ?_;rintro e w5 ⟨rfl, hb5, hu5⟩;have hu6 := hu1.trans hu5;have x4 : w5.cell? ⟨b, 4, none⟩ = some (.int .i64 (q : Nat)) := hb5.cell 4;have x3 : w5.cell? ⟨b, 3, none⟩ = some (S []) := hb5.cell 3;have g3 := hb5.free 3;have hB5 : Below B W1 w5 := hu5.below (fun _ e => by rw [e];exact hBb) (by have := hb1.lt;omega))
  have hS := (hD3.below hB5).text (P := Tryz.prog) 39 9 5 Tryz.underlying39 Tryz.underlying5 Tryz.underlying9;go_wp2;go_ret;exact ⟨hu6.setCell (p := ⟨b, 3, none⟩) (.inl rfl) _, rfl, _, hb5.set 3 _, World.ownsRow_nil _ _ _ _⟩
open Go.RowKit Go.Dr
def openF (ty fl st : Nat) (p : Bytes) : Option Fr :=
 if ty = 0 ∨ ty = 1 then dhF ty fl st p
 else if ty = 2 then some { ty := 2, fl := fl, st := st, dep := numF p 0 % 2147483648, wt := ((p.drop 4).headD 0).toNat, sole := decide (2147483647 < numF p 0) }
 else if ty = 3 then some { ty := 3, fl := fl, st := st, code := numF p 0 }
 else if ty = 4 then some { ty := 4, fl := fl, st := st, sets := setsK p (p.length / 6) }
 else if ty = 7 then some { ty := 7, fl := fl, st := st, last := numF p 0 % 2147483648, code := numF p 4, data := p.drop 8 }
 else if ty = 8 then some { ty := 8, fl := fl, st := st, inc := numF p 0 % 2147483648 }
 else some { ty := ty, fl := fl, st := st, data := p }
theorem Open_any {B b : Nat} (ty fl st : Nat) (p : Bytes) (v : Value) (w : World) (h : By B w v p) (hb : Blk w b 36 (zc ty fl st)) (hfl : fl < 256) (hpl : p.length ≤ 16777215) (hz : sizeF ty fl p.length = false) (hBb : B ≤ b) :
  Calls Tryz.prog 117 #[Ptr b, v] w (Opened w b (openF ty fl st p)) := by
 have c : ty = 0 ∨ ty = 1 ∨ ty = 2 ∨ ty = 3 ∨ ty = 4 ∨ ty = 7 ∨ ty = 8 ∨ (ty = 5 ∨ ty = 6 ∨ 9 ≤ ty) := (by omega)
 rcases c with rfl | rfl | rfl | rfl | rfl | rfl | rfl | hx
 ·have e : openF 0 fl st p = dhF 0 fl st p := rfl
  rw [e];by_cases h8 : (fl &&& 8 != 0) = true
  ·have h1 : 1 ≤ p.length := List.length_pos_iff.2 (by simp only [sizeF, aheadF, h8] at hz;simpa using hz)
   exact open_dh010 fl st p v w h hb hfl h8 h1 hBb
  ·exact open_dh000 fl st p v w h hb hfl (by simpa using h8) (Nat.zero_le _) hBb
 ·have e : openF 1 fl st p = dhF 1 fl st p := rfl
  rw [e];by_cases h8 : (fl &&& 8 != 0) = true
  ·by_cases h32 : (fl &&& 32 != 0) = true
   ·have h1 : 6 ≤ p.length := by simp only [sizeF, aheadF, h8, h32] at hz;simp at hz;omega
    exact open_dh111 fl st p v w h hb hfl h8 h32 h1 hBb
   ·have h1 : 1 ≤ p.length := by simp only [sizeF, aheadF, h8] at hz;simp at hz;omega
    exact open_dh110 fl st p v w h hb hfl h8 (by simpa using h32) h1 hBb
  ·by_cases h32 : (fl &&& 32 != 0) = true
   ·have h1 : 5 ≤ p.length := by simp only [sizeF, aheadF, h32] at hz;simp at hz;omega
    exact open_dh101 fl st p v w h hb hfl (by simpa using h8) h32 h1 hBb
   ·exact open_dh100 fl st p v w h hb hfl (by simpa using h8) (by simpa using h32) (Nat.zero_le _) hBb
 ·have h1 : 5 ≤ p.length := by simp [sizeF] at hz;omega
  have e : openF 2 fl st p = some { ty := 2, fl := fl, st := st, dep := numF p 0 % 2147483648, wt := (p[4]'h1).toNat, sole := decide (2147483647 < numF p 0) } := (by rw [← headD_at p 4 h1];rfl);rw [e];exact open_prio fl st p v w h hb h1
 ·exact open_rst fl st p v w h hb (by simp [sizeF] at hz;omega)
 ·exact open_set fl st (p.length / 6) p v w h hb (by simp [sizeF] at hz;omega) hpl hBb
 ·exact open_away fl st p v w h hb (by simp [sizeF] at hz;omega) hBb
 ·exact open_wu fl st p v w h hb (by simp [sizeF] at hz;omega)
 ·have e : openF ty fl st p = some { ty := ty, fl := fl, st := st, data := p } := by
   unfold openF;rw [if_neg (by omega), if_neg (by omega), if_neg (by omega), if_neg (by omega), if_neg (by omega), if_neg (by omega)]
  rw [e];exact open_else ty fl st p v w h hb hx
def takeF (l : Bytes) (most : Nat) : Fr × Nat × Ft :=
 if l.length < 9 then ({}, 0, {})
 else if most < beN (l.take 3) then ({}, 0, { is := true, code := 6 })
 else if l.length < 9 + beN (l.take 3) then ({}, 0, {})
 else if misF ((l.drop 3).headD 0).toNat (numF l 5 % 2147483648) then ({}, 0, { is := true, code := 1 })
 else if sizeF ((l.drop 3).headD 0).toNat ((l.drop 4).headD 0).toNat (beN (l.take 3)) then
  (if ((l.drop 3).headD 0).toNat = 2 then ({}, 9 + beN (l.take 3), { is := true, code := 6, st := numF l 5 % 2147483648 }) else ({}, 0, { is := true, code := 6 }))
 else match openF ((l.drop 3).headD 0).toNat ((l.drop 4).headD 0).toNat (numF l 5 % 2147483648) ((l.take (9 + beN (l.take 3))).drop 9) with
  | none => ({}, 0, { is := true, code := 1 })
  | some f =>
   if ((l.drop 3).headD 0).toNat = 8 ∧ f.inc = 0 then (if numF l 5 % 2147483648 = 0 then ({}, 0, { is := true, code := 1 }) else ({}, 9 + beN (l.take 3), { is := true, code := 1, st := numF l 5 % 2147483648 }))
   else match unfF f.sets with
    | some c => ({}, 0, { is := true, code := c })
    | none => (f, 9 + beN (l.take 3), {})
def Ft.val (x : Ft) : Value := .agg #[.bool x.is, .int .i64 (x.code : Nat), .int .i64 (x.st : Nat)]
def RetTake (w : World) (r : Fr × Nat × Ft) (e : Ending) (w' : World) : Prop :=
 ∃ vs, e = .returned (.tuple #[.agg (r.1.cells vs), .int .i64 (r.2.1 : Nat), r.2.2.val]) ∧ w'.ownsRow w.heap.size 33 2 vs r.1.sets.length (scells r.1.sets) ∧ Below w.heap.size w w'
end Go.Proofs.YtcodgfmombehoaaGreatDoor
namespace Go.Dr
open Go Go.RowKit
theorem wp_range {P : Program} {g : Operand} {ps : Array Tmp} {assign body : Code} {Q : Exit → Act → World → Prop} {a : Act} {w : World} {gf : Nat} {lb : Array Value}
  (hg : a.eval g = .func (.func gf) #[] lb) (eg : ∀ args w, (callFunc gf args).run P w = .ok (.enter gf args) w)
  (h : ∀ (fn : FuncId) (rec : LoopState → Option Code → Loop) (W1 : World), rec = (fun st pe => { state := st, pending := pe, fn, tmps := a.tmps, params := ps, assign, body, defers := w.heap.size }) →
   W1 = (w.alloc (.deferred (some []))).alloc (.loop (rec .ready none)) → W1.heap[w.heap.size + 1]? = some (.loop (rec .ready none)) → W1.heap[w.heap.size]? = some (.deferred (some [])) →
   Calls P gf (#[.func (.yield (w.heap.size + 1)) #[] #[]] ++ lb) W1 fun e W2 => (∃ v, e = .returned v) ∧ W2.heap[w.heap.size + 1]? = some (.loop (rec .ready none)) ∧
    Q .normal { a with defers := { target := .collected w.heap.size, args := #[] } :: a.defers } (W2.putObj (w.heap.size + 1) (.loop (rec .exhausted none)))) :
  (Code.rangeFunc g ps assign body).wp P Q a w := by
 refine (wpIn_wide (n := 3)).1 (wpIn_rangeFunc ?_);intro fn hfn;obtain ⟨rec, hrec⟩ : ∃ rec : LoopState → Option Code → Loop, rec = fun st pe => { state := st, pending := pe, fn, tmps := a.tmps, params := ps, assign, body, defers := w.heap.size } := ⟨_, rfl⟩
 obtain ⟨W1, hW1⟩ : ∃ W1, W1 = (w.alloc (.deferred (some []))).alloc (.loop (rec .ready none)) := ⟨_, rfl⟩
 have hL1 : W1.heap[w.heap.size + 1]? = some (.loop (rec .ready none)) := by
  rw [hW1];have := World.alloc_heap_new (w.alloc (.deferred (some []))) (.loop (rec .ready none));rwa [World.size_alloc] at this
 have hK1 : W1.heap[w.heap.size]? = some (.deferred (some [])) := by
  rw [hW1];exact (Below.heap_alloc _ _ _ (by simp)).trans (World.alloc_heap_new w _)
 refine ⟨w.heap.size + 1, [{ target := .collected w.heap.size, args := #[] }], W1, { target := .fn (.func gf) lb, args := #[.func (.yield (w.heap.size + 1)) #[] #[]] }, W1, gf,
  #[.func (.yield (w.heap.size + 1)) #[] #[]] ++ lb, W1, ?_, ?_, ?_, ?_, fun _ => by decide, ?_⟩
 ·rw [hW1, hrec];exact run_enterLoop_outer _ _ _ _ _
 ·simp only [resolve, hg]
  simp [go_sem]
 ·intro f' hf';trivial
 ·simp [invoke, go_sem, eg]
 ·refine callsIn_wide.2 ((h fn rec W1 hrec hW1 hL1 hK1).mono ?_)
  rintro e W2 ⟨⟨v, rfl⟩, hl, hq⟩;refine ⟨none, _, ?_, hq⟩;have := run_endLoop (P := P) hl (by rw [hrec];simp)
  rw [hrec] at this;rw [hrec];exact this
theorem yield_round {P : Program} {l D : Nat} {fn : FuncId} {tmps : Array Value} {ps : Array Tmp} {assign body : Code} {rec : LoopState → Option Code → Loop} {args : Array Value} {W : World} {R : World → Prop}
  (hrec : rec = fun st pe => { state := st, pending := pe, fn, tmps := tmps, params := ps, assign, body, defers := D })
  (hl : W.heap[l]? = some (.loop (rec .ready none))) (hs : args.size = ps.size)
  (hb : assign.wpIn (Fence.wide.inRound l) 1 P (Exit.then (fun a₁ w₁ => w₁.heap[l]? = some (.loop (rec .ready none)) ∧ body.wpIn (Fence.wide.inRound l) 1 P (fun ex _ w₃ => ex = .normal ∧ w₃.heap[l]? = some (.loop (rec .busy none)) ∧ R (w₃.putObj l (.loop (rec .ready none)))) a₁ (w₁.putObj l (.loop (rec .busy none)))) (fun _ _ _ => False))
   { tmps := (ps.zip args).foldl (fun t (p, v) => t.setIfInBounds p v) tmps, defers := [] } W) :
  YieldAt Fence.wide 1 P l args W fun e W' => e = .returned (.bool true) ∧ R W' := by
 have hy := run_yield (P := P) (args := args) hl (by rw [hrec];exact hs);rw [hrec] at hy;refine ⟨fn, _, assign, body, hy, roundIn_of_wpIn trivial (wpIn_mono hb ?_)⟩;rintro e a₁ w₁ hp
 cases e with
 | normal =>
  obtain ⟨h1, h2⟩ := hp;refine ⟨_, run_beginRound h1 (by rw [hrec]), ?_⟩;rw [hrec] at h2 ⊢;refine wpIn_mono h2 ?_;rintro e a3 w3 ⟨rfl, h4, h5⟩;exact ⟨_, _, run_endRound none h4, rfl, h5⟩
 | _ => exact hp.elim
end Go.Dr
