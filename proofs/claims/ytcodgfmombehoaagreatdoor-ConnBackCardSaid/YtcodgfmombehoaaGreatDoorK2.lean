/- Parts of the proof of bk_root: the texts Fra Frm1. -/
import Derived.Test.YtcodgfmombehoaaGreatDoorK1
import Derived.Test.YtcodgfmombehoaaGreatDoorRows
set_option linter.unusedSimpArgs false
set_option linter.unusedVariables false
set_option linter.unnecessarySimpa false
set_option maxRecDepth 100000
set_option maxHeartbeats 64000000
namespace Go.Proofs.YtcodgfmombehoaaGreatDoor
open Go.RowKit Go.Dr
def beN (l : Bytes) : Nat := l.foldl (fun n c => n * 256 + c.toNat) 0
theorem beN_snoc (l : Bytes) (c : UInt8) : beN (l ++ [c]) = beN l * 256 + c.toNat := by simp [beN]
theorem beN_from (l : Bytes) : ∀ a : Nat, l.foldl (fun n c => n * 256 + c.toNat) a < (a + 1) * 256 ^ l.length := by
 induction l with
 | nil => intro a;simp
 | cons c l ih =>
  intro a;rw [List.foldl_cons, List.length_cons, Nat.pow_succ];refine Nat.lt_of_lt_of_le (ih _) ?_;have := c.toNat_lt
  calc (a * 256 + c.toNat + 1) * 256 ^ l.length ≤ ((a + 1) * 256) * 256 ^ l.length := Nat.mul_le_mul_right _ (by omega)
   _ = (a + 1) * (256 ^ l.length * 256) := by rw [Nat.mul_assoc, Nat.mul_comm 256]
theorem beN_lt (l : Bytes) : beN l < 256 ^ l.length := by have := beN_from l 0;simpa [beN] using this
theorem beN_take (l : Bytes) (k : Nat) (h : k < l.length) : beN (l.take (k + 1)) = beN (l.take k) * 256 + l[k].toNat := by
 rw [take_snoc l k h, beN_snoc]
theorem bits_and (x y : Nat) (hx : x < 9223372036854775808) (hy : y < 9223372036854775808) : bits .and .i64 (x : Int) (y : Int) = ((x &&& y : Nat) : Int) := by
 unfold bits;simp only [BitVec.ofInt_natCast, BitVec.toNat_and, BitVec.toNat_ofNat];have e : IntKind.i64.bits = 64 := rfl;rw [e, Nat.mod_eq_of_lt (by omega), Nat.mod_eq_of_lt (by omega)];have := @Nat.and_le_left x y
 exact IntWalk.i64_in _ (by omega)
theorem bits_or32 (x y : Nat) (hx : x < 16777216) (hy : y < 256) : bits .or .u32 ((x : Int) * 256) ((y : Int) % 4294967296) = ((x * 256 + y : Nat) : Int) := by
 rw [show ((x : Int) * 256) = ((x * 256 : Nat) : Int) by simp, show ((y : Int) % 4294967296) = (y : Int) by omega];unfold bits;simp only [BitVec.ofInt_natCast, BitVec.toNat_or, BitVec.toNat_ofNat];have e : IntKind.u32.bits = 32 := rfl;rw [e, Nat.mod_eq_of_lt (by omega), Nat.mod_eq_of_lt (by omega)]
 have e2 : x * 256 ||| y = x * 256 + y := by
  have := Nat.two_pow_add_eq_or_of_lt (b := y) (i := 8) (by omega) x
  rw [Nat.mul_comm 256 x] at this;omega
 rw [e2];exact IntWalk.u32_in _ (by omega)
theorem ib (a b : Nat) : ((a : Int) == (b : Int)) = (a == b) := by
 by_cases h : a = b
 ·rw [h];simp
 ·rw [i_ne h];simp [h]
theorem inb (a b : Nat) : ((a : Int) != (b : Int)) = (a != b) := by unfold bne;rw [ib]
theorem ibs (a : Nat) : ((a : Int) == 0) = (a == 0) ∧ ((a : Int) == 1) = (a == 1) ∧ ((a : Int) == 2) = (a == 2) ∧ ((a : Int) == 3) = (a == 3) ∧ ((a : Int) == 4) = (a == 4) ∧ ((a : Int) == 5) = (a == 5) ∧ ((a : Int) == 6) = (a == 6) ∧ ((a : Int) == 7) = (a == 7) ∧ ((a : Int) == 8) = (a == 8) ∧ ((a : Int) == 9) = (a == 9) ∧ ((a : Int) != 0) = (a != 0) := ⟨ib a 0, ib a 1, ib a 2, ib a 3, ib a 4, ib a 5, ib a 6, ib a 7, ib a 8, ib a 9, inb a 0⟩
theorem flg (fl k : Nat) (h : fl < 256) (hk : k < 9223372036854775808) : (bits .and .i64 (fl : Int) (k : Int) != 0) = (fl &&& k != 0) := by rw [bits_and fl k (by omega) hk];exact inb _ 0
theorem flgs (fl : Nat) (h : fl < 256) : (bits .and .i64 (fl : Int) 1 != 0) = (fl &&& 1 != 0) ∧ (bits .and .i64 (fl : Int) 4 != 0) = (fl &&& 4 != 0) ∧ (bits .and .i64 (fl : Int) 8 != 0) = (fl &&& 8 != 0) ∧ (bits .and .i64 (fl : Int) 32 != 0) = (fl &&& 32 != 0) := ⟨flg fl 1 h (by decide), flg fl 4 h (by decide), flg fl 8 h (by decide), flg fl 32 h (by decide)⟩
theorem flg1 (fl : Nat) (h : fl < 256) : bits .and .i64 (fl : Int) 1 = ((fl % 2 : Nat) : Int) := by
 have e := bits_and fl 1 (by omega) (by decide);rw [Nat.and_one_is_mod] at e;exact e
theorem ret_b {a b : Bool} (h : a = b) : Ending.returned (.bool a) = Ending.returned (.bool b) := by rw [h]
structure Fr where
 ty : Nat := 0
 fl : Nat := 0
 st : Nat := 0
 data : Bytes := []
 pad : Nat := 0
 sets : List (Nat × Nat) := []
 code : Nat := 0
 last : Nat := 0
 inc : Nat := 0
 dep : Nat := 0
 wt : Nat := 0
 sole : Bool := false
def Fr.cells (f : Fr) (vs : Value) : Array Value := #[.int .i64 (f.ty : Nat), .int .i64 (f.fl : Nat), .int .i64 (f.st : Nat), S f.data, .int .i64 (f.pad : Nat), vs, .int .i64 (f.code : Nat), .int .i64 (f.last : Nat), .int .i64 (f.inc : Nat), .int .i64 (f.dep : Nat), .int .i64 (f.wt : Nat), .bool f.sole]
def setc (s : Nat × Nat) : List Value := [.int .i64 (s.1 : Nat), .int .i64 (s.2 : Nat)]
def scells (l : List (Nat × Nat)) : List Value := l.flatMap setc
theorem scells_append (a b : List (Nat × Nat)) : scells (a ++ b) = scells a ++ scells b := by simp [scells]
theorem scells_one (l : List (Nat × Nat)) : ∀ u ∈ scells l, u.oneCell' = true := by
 intro u hu;obtain ⟨s, -, hs⟩ := List.mem_flatMap.1 hu;simp [setc] at hs
 rcases hs with rfl | rfl <;> rfl
structure Ft where
 is : Bool := false
 code : Nat := 0
 st : Nat := 0
def misF (ty st : Nat) : Bool := ty == 5 || ((ty == 4 || ty == 6 || ty == 7) && st != 0) || ((ty == 0 || ty == 1 || ty == 2 || ty == 3 || ty == 9) && st == 0)
def aheadF (ty fl : Nat) : Nat := (if fl &&& 8 != 0 then 1 else 0) + (if ty == 1 && fl &&& 32 != 0 then 5 else 0)
def sizeF (ty fl n : Nat) : Bool :=
 if ty == 0 || ty == 1 then decide (n < aheadF ty fl)
 else if ty == 4 then n % 6 != 0 || (fl &&& 1 != 0 && n != 0)
 else if ty == 7 then decide (n < 8)
 else if ty == 2 then n != 5
 else if ty == 3 || ty == 8 then n != 4
 else if ty == 6 then n != 8
 else false
def numF (p : Bytes) (k : Nat) : Nat := beN ((p.drop k).take 4)
def set1 (p : Bytes) (j : Nat) : Nat × Nat := (beN ((p.drop (6 * j)).take 2), numF p (6 * j + 2))
def setsK (p : Bytes) (k : Nat) : List (Nat × Nat) := (List.range k).map (set1 p)
theorem setsK_succ (p : Bytes) (k : Nat) : setsK p (k + 1) = setsK p k ++ [set1 p k] := by simp [setsK, List.range_succ]
theorem setsK_length (p : Bytes) (k : Nat) : (setsK p k).length = k := by simp [setsK]
open Go.RowKit Go.Dr
def By (B : Nat) (w : World) (v : Value) (l : Bytes) : Prop := Rd B w 1 v l.length (l.map B8)
theorem By.below {B : Nat} {w w' : World} {v : Value} {l : Bytes} (h : By B w v l) (hb : Below B w w') : By B w' v l := Rd.below h hb
theorem By.mono {B B' : Nat} {w : World} {v : Value} {l : Bytes} (h : By B w v l) (hB : B ≤ B') : By B' w v l := Rd.mono h hB
theorem By.form {B : Nat} {w : World} {v : Value} {l : Bytes} (h : By B w v l) : ∃ a cap, v = .slice a l.length cap ∧ l.length ≤ cap ∧ cap ≤ 9223372036854775807 := by
 obtain ⟨a, cap, h1, h2, h3, h4, h5, h6⟩ := h;exact ⟨a, cap, h1, h2, by unfold maxLen at h3;omega⟩
theorem By.at {B : Nat} {w : World} {a : Option Addr} {n cap : Nat} {l : Bytes} (h : By B w (.slice a n cap) l) (k : Nat) (hk : k < l.length) :
  ∃ b off, a = some ⟨b, off, none⟩ ∧ b < B ∧ w.cell? ⟨b, off + k, none⟩ = some (B8 l[k]) := by
 obtain ⟨a', cap', h1, h2, h3, h4, h5, h6⟩ := h;simp only [Value.slice.injEq] at h1;obtain ⟨rfl, rfl, rfl⟩ := h1;obtain ⟨b, off, rfl, hb, c0⟩ := h6 k _ (by rw [List.getElem?_map, List.getElem?_eq_getElem hk];rfl);exact ⟨b, off, rfl, hb, c0⟩
theorem By.cut {B : Nat} {w : World} {a : Option Addr} {n cap : Nat} {l : Bytes} (h : By B w (.slice a n cap) l) {i j : Nat} (hi : i ≤ j) (hj : j ≤ l.length) : By B w (sliced a i j cap 1) ((l.take j).drop i) := by
 have e : n = l.length := by
  obtain ⟨a', cap', h1, -⟩ := h;simp only [Value.slice.injEq] at h1;exact h1.2.1
 subst e;have h1 := Rd.upto h (k := j) hj;have h2 := Rd.sliced h1 hi;unfold By;rw [List.length_drop, List.length_take, Nat.min_eq_left hj];rwa [Nat.mul_one, Nat.mul_one, ← List.map_take, ← List.map_drop] at h2
theorem By.from {B : Nat} {w : World} {v : Value} {l : Bytes} (h : By B w v l) (k : Nat) (hk : k ≤ l.length) :
  ∃ a c, By B w (.slice a (l.length - k) c) (l.drop k) ∧ ∀ w', (Instr.slice 39 v (some (.int .i64 (k : Int))) none none).run Tryz.prog w' = .ok (.slice a (l.length - k) c) w' := by
 obtain ⟨a, cap, rfl, hc, hcm⟩ := h.form;have hD := h.cut (i := k) (j := l.length) hk (Nat.le_refl _);rw [List.take_length] at hD;have hs : Tryz.prog.cellsOf 5 = 1 := (by kernel_rfl);have he : Tryz.prog.elem 39 = 5 := (by kernel_rfl);obtain ⟨i, hi⟩ := info_of_underlying Tryz.underlying5;refine ⟨_, _, hD, fun w' => ?_⟩;rw [run_slice_l w' 39 a l.length cap (by rw [he];exact Tryz.underlying39) .i64 (k : Int) (by omega) (by omega), he, run_sizeOf w' hi, hs];simp [Result.andThen, sliced]
theorem By.text {P : Program} {B : Nat} {w : World} {v : Value} {l : Bytes} (h : By B w v l) (src dst e : TypeId) (hs : P.underlying src = some (.slice e)) (he : P.underlying e = some (.int .u8)) (hd : P.underlying dst = some .string) :
  (convert src dst v).run P w = .ok (S l) w := by
 obtain ⟨a, cap, rfl, hc, hcm⟩ := h.form;have h' := h
 obtain ⟨a', cap', h1, h2, h3, h4, h5, h6⟩ := h';simp only [Value.slice.injEq] at h1;obtain ⟨rfl, -, rfl⟩ := h1
 cases a with
 | none =>
  have := h5 rfl
  have e0 : l = [] := List.eq_nil_of_length_eq_zero (by omega);subst e0;subst this;exact run_convert_bytes_nil w src e hs he 0 0 dst hd
 | some ad =>
  refine run_convert_bytes_back w src dst e ad cap l hs he hd fun j hj => ?_
  obtain ⟨b, off, e1, -, c0⟩ := h.at j hj;simp only [Option.some.injEq] at e1;subst e1;rw [Addr.add_lit];exact c0
theorem oTake_any {B : Nat} (l : Bytes) (v : Value) (k n : Nat) (w : World) (h : By B w v l) (hn : 1 ≤ n) (hn4 : n ≤ 4) (hk : k + n ≤ l.length) :
  Calls Tryz.prog 112 #[v, .int .i64 (k : Int), .int .i64 (n : Int)] w fun e w' => e = .returned (.tuple #[.int .u32 (beN ((l.drop k).take n) : Nat), .int .i64 0]) ∧ w' = w := by
 obtain ⟨a, cap, rfl, hc, hcm⟩ := h.form;have hD := h.cut (i := k) (j := k + n) (by omega) hk;obtain ⟨m, em⟩ : ∃ m, m = (l.take (k + n)).drop k := ⟨_, rfl⟩;have em2 : (l.drop k).take n = m := (by rw [em, List.drop_take, Nat.add_sub_cancel_left]);have eml : m.length = n := (by rw [em, List.length_drop, List.length_take];omega);rw [em2];rw [← em] at hD;unfold sliced at hD;rw [if_neg (by omega), Nat.mul_one] at hD;have t1 : decide ((n : Int) < 1) = false := (by simp;omega);have t2 : decide ((4 : Int) < (n : Int)) = false := (by simp;omega);have t3 : decide ((k : Int) < 0) = false := (by simp);have t4 : decide ((l.length : Int) - (n : Int) < (k : Int)) = false := (by simp;omega);have EML := Lib.hid eml;clear em em2;go_enter Tryz.func112, Tryz.ntmps112
 go_wp2
 go_loopw [8, 34] (fun s i wr => ∃ j : Nat, j ≤ n ∧ i = .int .i64 (j : Int) ∧ s = .int .u32 (beN (m.take j) : Nat) ∧ wr = w) (fun s i _ => n - (intOf i).toNat)
 case atStart => exact ⟨0, Nat.zero_le _, rfl, rfl, rfl⟩
 case round =>
  obtain ⟨j, hj, rfl, rfl, rfl⟩ := hrel;by_cases hlt : j < n
  ·have hjm : j < m.length := by rw [EML.out];exact hlt
   obtain ⟨b, off, ea, hb, c0⟩ := hD.at j hjm;rw [ea];have hs := beN_take m j hjm
   have h3 : beN (m.take j) < 16777216 := by
    refine Nat.lt_of_lt_of_le (beN_lt _) ?_;rw [List.length_take, Nat.min_eq_left (by omega)];exact Nat.pow_le_pow_right (j := 3) (by decide) (by omega)
   have hor := bits_or32 (beN (m.take j)) m[j].toNat h3 (UInt8.toNat_lt _);rw [← hs] at hor;clear hs hD;go_wp2
   go_roundw
   case rel => exact ⟨j + 1, by omega, by go_num, by first | rfl | rw [hor], trivial⟩
   case measure => simp [intOf];omega
  ·obtain rfl : j = n := by omega
   rw [List.take_of_length_le (by rw [EML.out];omega)];go_wp2;go_ret2;exact ⟨rfl, rfl⟩
theorem Num_any {B : Nat} (l : Bytes) (v : Value) (k : Nat) (w : World) (h : By B w v l) (hk : k + 4 ≤ l.length) :
  Calls Tryz.prog 114 #[v, .int .i64 (k : Int)] w fun e w' => e = .returned (.int .i64 (numF l k : Nat)) ∧ w' = w := by
 have hT := oTake_any l v k 4 w h (by decide) (by decide) hk
 have hlt : beN ((l.drop k).take 4) < 4294967296 := by
  refine Nat.lt_of_lt_of_le (beN_lt _) ?_;exact Nat.pow_le_pow_right (j := 4) (by decide) (by rw [List.length_take];omega)
 have e : numF l k = beN ((l.drop k).take 4) := rfl;rw [e];obtain ⟨m, em⟩ : ∃ m, m = beN ((l.drop k).take 4) := ⟨_, rfl⟩;rw [← em] at hT hlt ⊢;clear em e;go_enter Tryz.func114, Tryz.ntmps114
 go_wp2_with fail;refine hT.mono ?_;rintro e w' ⟨rfl, rfl⟩;go_wp2;go_ret;exact ⟨by first | rfl | (simp;done) | (simp;omega), rfl⟩
theorem Mis_any (ty st : Nat) (w : World) :
  Calls Tryz.prog 115 #[.int .i64 (ty : Int), .int .i64 (st : Int)] w fun e w' => e = .returned (.bool (misF ty st)) ∧ w' = w := by
 go_enter Tryz.func115, Tryz.ntmps115
 go_wp2
 all_goals go_ret
 all_goals refine ⟨ret_b ?_, rfl⟩
 all_goals (simp only [ibs] at *;simp_all [misF])
theorem Ahead_any (ty fl : Nat) (w : World) (hf : fl < 256) :
  Calls Tryz.prog 137 #[.int .i64 (ty : Int), .int .i64 (fl : Int)] w fun e w' => e = .returned (.int .i64 (aheadF ty fl : Nat)) ∧ w' = w := by
 go_enter Tryz.func137, Tryz.ntmps137
 go_wp2
 all_goals go_ret
 all_goals refine ⟨ret_int ?_, rfl⟩
 all_goals (have g := flgs fl hf;simp_all [aheadF])
 all_goals (first | omega | ((repeat' split) <;> omega))
theorem Size_any (ty fl n : Nat) (w : World) (hf : fl < 256) :
  Calls Tryz.prog 116 #[.int .i64 (ty : Int), .int .i64 (fl : Int), .int .i64 (n : Int)] w fun e w' => e = .returned (.bool (sizeF ty fl n)) ∧ Below w.heap.size w w' := by
 have hA := fun w => Ahead_any ty fl w hf
 have hR : (n : Int).tmod 6 = ((n % 6 : Nat) : Int) := rfl;have c : ty = 0 ∨ ty = 1 ∨ ty = 2 ∨ ty = 3 ∨ ty = 4 ∨ ty = 6 ∨ ty = 7 ∨ ty = 8 ∨ (ty ≠ 0 ∧ ty ≠ 1 ∧ ty ≠ 2 ∧ ty ≠ 3 ∧ ty ≠ 4 ∧ ty ≠ 6 ∧ ty ≠ 7 ∧ ty ≠ 8) := (by omega)
 rcases c with rfl | rfl | rfl | rfl | rfl | rfl | rfl | rfl | ⟨n0, n1, n2, n3, n4, n6, n7, n8⟩
 ·obtain ⟨m, em⟩ : ∃ m, m = aheadF 0 fl := ⟨_, rfl⟩
  have e : sizeF 0 fl n = decide (n < m) := (by rw [em];rfl);rw [e];rw [← em] at hA;clear e em hR
  change Calls Tryz.prog 116 #[.int .i64 0, .int .i64 (fl : Int), .int .i64 (n : Int)] w _
  go_enter Tryz.func116, Tryz.ntmps116
  go_wp2_with (go_at_call 137;refine (hA _).mono ?_;rintro e w' ⟨rfl, rfl⟩)
  go_ret;exact ⟨ret_b (by simp), (Below.refl _ _).alloc (Nat.le_refl _) _⟩
 ·obtain ⟨m, em⟩ : ∃ m, m = aheadF 1 fl := ⟨_, rfl⟩
  have e : sizeF 1 fl n = decide (n < m) := (by rw [em];rfl);rw [e];rw [← em] at hA;clear e em hR
  change Calls Tryz.prog 116 #[.int .i64 1, .int .i64 (fl : Int), .int .i64 (n : Int)] w _
  go_enter Tryz.func116, Tryz.ntmps116
  go_wp2_with (go_at_call 137;refine (hA _).mono ?_;rintro e w' ⟨rfl, rfl⟩)
  go_ret;exact ⟨ret_b (by simp), (Below.refl _ _).alloc (Nat.le_refl _) _⟩
 ·have s1 := ibs n
  have g := flg1 fl hf;have S1 := Lib.hid s1;have G := Lib.hid g;clear s1 g hA hR
  change Calls Tryz.prog 116 #[.int .i64 2, .int .i64 (fl : Int), .int .i64 (n : Int)] w _
  go_enter Tryz.func116, Tryz.ntmps116
  go_wp2
  all_goals go_ret
  all_goals refine ⟨ret_b ?_, (Below.refl _ _).alloc (Nat.le_refl _) _⟩
  all_goals (have g := G.out;clear G S1;first | (exact inb n _) | (simp_all [sizeF];done) | (simp_all [sizeF];omega) | (simp_all [sizeF];(have a1 : fl % 2 = 1 := by omega);(have a2 : n % 6 = 0 := by omega);(have a3 : (fl : Int) % 2 = 1 := by omega);rw [a1, a2, a3];exact inb n 0))
 ·have s1 := ibs n
  have g := flg1 fl hf;have S1 := Lib.hid s1;have G := Lib.hid g;clear s1 g hA hR
  change Calls Tryz.prog 116 #[.int .i64 3, .int .i64 (fl : Int), .int .i64 (n : Int)] w _
  go_enter Tryz.func116, Tryz.ntmps116
  go_wp2
  all_goals go_ret
  all_goals refine ⟨ret_b ?_, (Below.refl _ _).alloc (Nat.le_refl _) _⟩
  all_goals (have g := G.out;clear G S1;first | (exact inb n _) | (simp_all [sizeF];done) | (simp_all [sizeF];omega) | (simp_all [sizeF];(have a1 : fl % 2 = 1 := by omega);(have a2 : n % 6 = 0 := by omega);(have a3 : (fl : Int) % 2 = 1 := by omega);rw [a1, a2, a3];exact inb n 0))
 ·have s1 := ibs n
  have g := flg1 fl hf;have S1 := Lib.hid s1;have G := Lib.hid g;clear s1 g hA
  change Calls Tryz.prog 116 #[.int .i64 4, .int .i64 (fl : Int), .int .i64 (n : Int)] w _
  go_enter Tryz.func116, Tryz.ntmps116
  go_wp2
  all_goals go_ret
  all_goals refine ⟨ret_b ?_, (Below.refl _ _).alloc (Nat.le_refl _) _⟩
  all_goals (have g := G.out;clear G S1;first | (exact inb n _) | (simp_all [sizeF];done) | (simp_all [sizeF];omega) | (simp_all [sizeF];(have a1 : fl % 2 = 1 := by omega);(have a2 : n % 6 = 0 := by omega);(have a3 : (fl : Int) % 2 = 1 := by omega);rw [a1, a2, a3];exact inb n 0))
 ·have s1 := ibs n
  have g := flg1 fl hf;have S1 := Lib.hid s1;have G := Lib.hid g;clear s1 g hA hR
  change Calls Tryz.prog 116 #[.int .i64 6, .int .i64 (fl : Int), .int .i64 (n : Int)] w _
  go_enter Tryz.func116, Tryz.ntmps116
  go_wp2
  all_goals go_ret
  all_goals refine ⟨ret_b ?_, (Below.refl _ _).alloc (Nat.le_refl _) _⟩
  all_goals (have g := G.out;clear G S1;first | (exact inb n _) | (simp_all [sizeF];done) | (simp_all [sizeF];omega) | (simp_all [sizeF];(have a1 : fl % 2 = 1 := by omega);(have a2 : n % 6 = 0 := by omega);(have a3 : (fl : Int) % 2 = 1 := by omega);rw [a1, a2, a3];exact inb n 0))
 ·have s1 := ibs n
  have g := flg1 fl hf;have S1 := Lib.hid s1;have G := Lib.hid g;clear s1 g hA hR
  change Calls Tryz.prog 116 #[.int .i64 7, .int .i64 (fl : Int), .int .i64 (n : Int)] w _
  go_enter Tryz.func116, Tryz.ntmps116
  go_wp2
  all_goals go_ret
  all_goals refine ⟨ret_b ?_, (Below.refl _ _).alloc (Nat.le_refl _) _⟩
  all_goals (have g := G.out;clear G S1;first | (exact inb n _) | (simp_all [sizeF];done) | (simp_all [sizeF];omega) | (simp_all [sizeF];(have a1 : fl % 2 = 1 := by omega);(have a2 : n % 6 = 0 := by omega);(have a3 : (fl : Int) % 2 = 1 := by omega);rw [a1, a2, a3];exact inb n 0))
 ·have s1 := ibs n
  have g := flg1 fl hf;have S1 := Lib.hid s1;have G := Lib.hid g;clear s1 g hA hR
  change Calls Tryz.prog 116 #[.int .i64 8, .int .i64 (fl : Int), .int .i64 (n : Int)] w _
  go_enter Tryz.func116, Tryz.ntmps116
  go_wp2
  all_goals go_ret
  all_goals refine ⟨ret_b ?_, (Below.refl _ _).alloc (Nat.le_refl _) _⟩
  all_goals (have g := G.out;clear G S1;first | (exact inb n _) | (simp_all [sizeF];done) | (simp_all [sizeF];omega) | (simp_all [sizeF];(have a1 : fl % 2 = 1 := by omega);(have a2 : n % 6 = 0 := by omega);(have a3 : (fl : Int) % 2 = 1 := by omega);rw [a1, a2, a3];exact inb n 0))
 ·have d0 : ((ty : Int) == 0) = false := i_ne (b := 0) n0
  have d1 : ((ty : Int) == 1) = false := i_ne (b := 1) n1;have d2 : ((ty : Int) == 2) = false := i_ne (b := 2) n2;have d3 : ((ty : Int) == 3) = false := i_ne (b := 3) n3;have d4 : ((ty : Int) == 4) = false := i_ne (b := 4) n4;have d6 : ((ty : Int) == 6) = false := i_ne (b := 6) n6;have d7 : ((ty : Int) == 7) = false := i_ne (b := 7) n7;have d8 : ((ty : Int) == 8) = false := i_ne (b := 8) n8;have e : sizeF ty fl n = false := (by simp [sizeF, n0, n1, n2, n3, n4, n6, n7, n8]);rw [e];clear e hR hA n0 n1 n2 n3 n4 n6 n7 n8;go_enter Tryz.func116, Tryz.ntmps116
  go_wp2;go_ret;exact ⟨rfl, (Below.refl _ _).alloc (Nat.le_refl _) _⟩
end Go.Proofs.YtcodgfmombehoaaGreatDoor
