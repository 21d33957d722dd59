/- Parts of the proof of wr_root: the texts Fra Frm1 Ring Pmp. -/
import Derived.Test.YtkeeofhjdffhbaaGreatDoorW1
import Derived.Test.YtkeeofhjdffhbaaGreatDoorRows
set_option linter.unusedSimpArgs false
set_option linter.unusedVariables false
set_option linter.unnecessarySimpa false
namespace Go.Proofs.YtkeeofhjdffhbaaGreatDoor
open Go.RowKit Go.Dr
def beN (l : Bytes) : Nat := l.foldl (fun n c => n * 256 + c.toNat) 0
theorem beN_snoc (l : Bytes) (c : UInt8) : beN (l ++ [c]) = beN l * 256 + c.toNat := by simp [beN]
theorem beN_from (l : Bytes) : ∀ a : Nat, l.foldl (fun n c => n * 256 + c.toNat) a < (a + 1) * 256 ^ l.length := by
 induction l with
 | nil => intro a;simp
 | cons c l ih =>
  intro a
  rw [List.foldl_cons, List.length_cons, Nat.pow_succ]
  refine Nat.lt_of_lt_of_le (ih _) ?_
  have := c.toNat_lt
  calc (a * 256 + c.toNat + 1) * 256 ^ l.length ≤ ((a + 1) * 256) * 256 ^ l.length := Nat.mul_le_mul_right _ (by omega)
   _ = (a + 1) * (256 ^ l.length * 256) := by rw [Nat.mul_assoc, Nat.mul_comm 256]
theorem beN_lt (l : Bytes) : beN l < 256 ^ l.length := by have := beN_from l 0;simpa [beN] using this
theorem beN_take (l : Bytes) (k : Nat) (h : k < l.length) : beN (l.take (k + 1)) = beN (l.take k) * 256 + l[k].toNat := by
 rw [take_snoc l k h, beN_snoc]
theorem bits_and (x y : Nat) (hx : x < 9223372036854775808) (hy : y < 9223372036854775808) : bits .and .i64 (x : Int) (y : Int) = ((x &&& y : Nat) : Int) := by
 unfold bits
 simp only [BitVec.ofInt_natCast, BitVec.toNat_and, BitVec.toNat_ofNat]
 have e : IntKind.i64.bits = 64 := rfl
 rw [e, Nat.mod_eq_of_lt (by omega), Nat.mod_eq_of_lt (by omega)]
 have := @Nat.and_le_left x y
 exact IntWalk.i64_in _ (by omega)
theorem bits_or32 (x y : Nat) (hx : x < 16777216) (hy : y < 256) : bits .or .u32 ((x : Int) * 256) ((y : Int) % 4294967296) = ((x * 256 + y : Nat) : Int) := by
 rw [show ((x : Int) * 256) = ((x * 256 : Nat) : Int) by simp, show ((y : Int) % 4294967296) = (y : Int) by omega]
 unfold bits
 simp only [BitVec.ofInt_natCast, BitVec.toNat_or, BitVec.toNat_ofNat]
 have e : IntKind.u32.bits = 32 := rfl
 rw [e, Nat.mod_eq_of_lt (by omega), Nat.mod_eq_of_lt (by omega)]
 have e2 : x * 256 ||| y = x * 256 + y := by
  have := Nat.two_pow_add_eq_or_of_lt (b := y) (i := 8) (by omega) x
  rw [Nat.mul_comm 256 x] at this
  omega
 rw [e2]
 exact IntWalk.u32_in _ (by omega)
theorem ib (a b : Nat) : ((a : Int) == (b : Int)) = (a == b) := by
 by_cases h : a = b
 ·rw [h];simp
 ·rw [i_ne h];simp [h]
theorem inb (a b : Nat) : ((a : Int) != (b : Int)) = (a != b) := by unfold bne;rw [ib]
theorem ibs (a : Nat) : ((a : Int) == 0) = (a == 0) ∧ ((a : Int) == 1) = (a == 1) ∧ ((a : Int) == 2) = (a == 2) ∧ ((a : Int) == 3) = (a == 3) ∧ ((a : Int) == 4) = (a == 4) ∧ ((a : Int) == 5) = (a == 5) ∧ ((a : Int) == 6) = (a == 6) ∧ ((a : Int) == 7) = (a == 7) ∧ ((a : Int) == 8) = (a == 8) ∧ ((a : Int) == 9) = (a == 9) ∧ ((a : Int) != 0) = (a != 0) := ⟨ib a 0, ib a 1, ib a 2, ib a 3, ib a 4, ib a 5, ib a 6, ib a 7, ib a 8, ib a 9, inb a 0⟩
theorem flg (fl k : Nat) (h : fl < 256) (hk : k < 9223372036854775808) : (bits .and .i64 (fl : Int) (k : Int) != 0) = (fl &&& k != 0) := by rw [bits_and fl k (by omega) hk];exact inb _ 0
theorem flgs (fl : Nat) (h : fl < 256) : (bits .and .i64 (fl : Int) 1 != 0) = (fl &&& 1 != 0) ∧ (bits .and .i64 (fl : Int) 4 != 0) = (fl &&& 4 != 0) ∧ (bits .and .i64 (fl : Int) 8 != 0) = (fl &&& 8 != 0) ∧ (bits .and .i64 (fl : Int) 32 != 0) = (fl &&& 32 != 0) := ⟨flg fl 1 h (by decide), flg fl 4 h (by decide), flg fl 8 h (by decide), flg fl 32 h (by decide)⟩
theorem flg1 (fl : Nat) (h : fl < 256) : bits .and .i64 (fl : Int) 1 = ((fl % 2 : Nat) : Int) := by
 have e := bits_and fl 1 (by omega) (by decide)
 rw [Nat.and_one_is_mod] at e
 exact e
theorem ret_b {a b : Bool} (h : a = b) : Ending.returned (.bool a) = Ending.returned (.bool b) := by rw [h]
structure Fr where
 ty : Nat := 0
 fl : Nat := 0
 st : Nat := 0
 data : Bytes := []
 pad : Nat := 0
 sets : List (Nat × Nat) := []
 code : Nat := 0
 last : Nat := 0
 inc : Nat := 0
 dep : Nat := 0
 wt : Nat := 0
 sole : Bool := false
def Fr.cells (f : Fr) (vs : Value) : Array Value := #[.int .i64 (f.ty : Nat), .int .i64 (f.fl : Nat), .int .i64 (f.st : Nat), S f.data, .int .i64 (f.pad : Nat), vs, .int .i64 (f.code : Nat), .int .i64 (f.last : Nat), .int .i64 (f.inc : Nat), .int .i64 (f.dep : Nat), .int .i64 (f.wt : Nat), .bool f.sole]
def setc (s : Nat × Nat) : List Value := [.int .i64 (s.1 : Nat), .int .i64 (s.2 : Nat)]
def scells (l : List (Nat × Nat)) : List Value := l.flatMap setc
theorem scells_append (a b : List (Nat × Nat)) : scells (a ++ b) = scells a ++ scells b := by simp [scells]
theorem scells_one (l : List (Nat × Nat)) : ∀ u ∈ scells l, u.oneCell' = true := by
 intro u hu
 obtain ⟨s, -, hs⟩ := List.mem_flatMap.1 hu
 simp [setc] at hs
 rcases hs with rfl | rfl <;> rfl
/-- what is wrong with a frame that came: nothing;of the connection;of a stream -/
structure Ft where
 is : Bool := false
 code : Nat := 0
 st : Nat := 0
def misF (ty st : Nat) : Bool := ty == 5 || ((ty == 4 || ty == 6 || ty == 7) && st != 0) || ((ty == 0 || ty == 1 || ty == 2 || ty == 3 || ty == 9) && st == 0)
def aheadF (ty fl : Nat) : Nat := (if fl &&& 8 != 0 then 1 else 0) + (if ty == 1 && fl &&& 32 != 0 then 5 else 0)
def sizeF (ty fl n : Nat) : Bool :=
 if ty == 0 || ty == 1 then decide (n < aheadF ty fl)
 else if ty == 4 then n % 6 != 0 || (fl &&& 1 != 0 && n != 0)
 else if ty == 7 then decide (n < 8)
 else if ty == 2 then n != 5
 else if ty == 3 || ty == 8 then n != 4
 else if ty == 6 then n != 8
 else false
def numF (p : Bytes) (k : Nat) : Nat := beN ((p.drop k).take 4)
def set1 (p : Bytes) (j : Nat) : Nat × Nat := (beN ((p.drop (6 * j)).take 2), numF p (6 * j + 2))
def setsK (p : Bytes) (k : Nat) : List (Nat × Nat) := (List.range k).map (set1 p)
theorem setsK_succ (p : Bytes) (k : Nat) : setsK p (k + 1) = setsK p k ++ [set1 p k] := by simp [setsK, List.range_succ]
theorem setsK_length (p : Bytes) (k : Nat) : (setsK p k).length = k := by simp [setsK]
end Go.Proofs.YtkeeofhjdffhbaaGreatDoor
namespace Go.Proofs.YtkeeofhjdffhbaaGreatDoor
open Go.RowKit Go.Dr
/-- The bytes of a slice, read. -/
def By (B : Nat) (w : World) (v : Value) (l : Bytes) : Prop := Rd B w 1 v l.length (l.map B8)
theorem By.below {B : Nat} {w w' : World} {v : Value} {l : Bytes} (h : By B w v l) (hb : Below B w w') : By B w' v l := Rd.below h hb
theorem By.mono {B B' : Nat} {w : World} {v : Value} {l : Bytes} (h : By B w v l) (hB : B ≤ B') : By B' w v l := Rd.mono h hB
theorem By.form {B : Nat} {w : World} {v : Value} {l : Bytes} (h : By B w v l) : ∃ a cap, v = .slice a l.length cap ∧ l.length ≤ cap ∧ cap ≤ 9223372036854775807 := by
 obtain ⟨a, cap, h1, h2, h3, h4, h5, h6⟩ := h
 exact ⟨a, cap, h1, h2, by unfold maxLen at h3;omega⟩
theorem By.at {B : Nat} {w : World} {a : Option Addr} {n cap : Nat} {l : Bytes} (h : By B w (.slice a n cap) l) (k : Nat) (hk : k < l.length) :
  ∃ b off, a = some ⟨b, off, none⟩ ∧ b < B ∧ w.cell? ⟨b, off + k, none⟩ = some (B8 l[k]) := by
 obtain ⟨a', cap', h1, h2, h3, h4, h5, h6⟩ := h
 simp only [Value.slice.injEq] at h1
 obtain ⟨rfl, rfl, rfl⟩ := h1
 obtain ⟨b, off, rfl, hb, c0⟩ := h6 k _ (by rw [List.getElem?_map, List.getElem?_eq_getElem hk];rfl)
 exact ⟨b, off, rfl, hb, c0⟩
theorem By.cut {B : Nat} {w : World} {a : Option Addr} {n cap : Nat} {l : Bytes} (h : By B w (.slice a n cap) l) {i j : Nat} (hi : i ≤ j) (hj : j ≤ l.length) : By B w (sliced a i j cap 1) ((l.take j).drop i) := by
 have e : n = l.length := by
  obtain ⟨a', cap', h1, -⟩ := h
  simp only [Value.slice.injEq] at h1
  exact h1.2.1
 subst e
 have h1 := Rd.upto h (k := j) hj
 have h2 := Rd.sliced h1 hi
 unfold By
 rw [List.length_drop, List.length_take, Nat.min_eq_left hj]
 rwa [Nat.mul_one, Nat.mul_one, ← List.map_take, ← List.map_drop] at h2
/-- 'b[k:]' of bytes that are read: what it is;how it runs -/
theorem By.from {B : Nat} {w : World} {v : Value} {l : Bytes} (h : By B w v l) (k : Nat) (hk : k ≤ l.length) :
  ∃ a c, By B w (.slice a (l.length - k) c) (l.drop k) ∧ ∀ w', (Instr.slice 26 v (some (.int .i64 (k : Int))) none none).run Tryz.prog w' = .ok (.slice a (l.length - k) c) w' := by
 obtain ⟨a, cap, rfl, hc, hcm⟩ := h.form
 have hD := h.cut (i := k) (j := l.length) hk (Nat.le_refl _)
 rw [List.take_length] at hD
 have hs : Tryz.prog.cellsOf 5 = 1 := by kernel_rfl
 have he : Tryz.prog.elem 26 = 5 := by kernel_rfl
 obtain ⟨i, hi⟩ := info_of_underlying Tryz.underlying5
 refine ⟨_, _, hD, fun w' => ?_⟩
 rw [run_slice_l w' 26 a l.length cap (by rw [he];exact Tryz.underlying26) .i64 (k : Int) (by omega) (by omega), he, run_sizeOf w' hi, hs]
 simp [Result.andThen, sliced]
/-- 'string(b)' over bytes that are read -/
theorem By.text {P : Program} {B : Nat} {w : World} {v : Value} {l : Bytes} (h : By B w v l) (src dst e : TypeId) (hs : P.underlying src = some (.slice e)) (he : P.underlying e = some (.int .u8)) (hd : P.underlying dst = some .string) :
  (convert src dst v).run P w = .ok (S l) w := by
 obtain ⟨a, cap, rfl, hc, hcm⟩ := h.form
 have h' := h
 obtain ⟨a', cap', h1, h2, h3, h4, h5, h6⟩ := h'
 simp only [Value.slice.injEq] at h1
 obtain ⟨rfl, -, rfl⟩ := h1
 cases a with
 | none =>
  have := h5 rfl
  have e0 : l = [] := List.eq_nil_of_length_eq_zero (by omega)
  subst e0
  subst this
  exact run_convert_bytes_nil w src e hs he 0 0 dst hd
 | some ad =>
  refine run_convert_bytes_back w src dst e ad cap l hs he hd fun j hj => ?_
  obtain ⟨b, off, e1, -, c0⟩ := h.at j hj
  simp only [Option.some.injEq] at e1
  subst e1
  rw [Addr.add_lit]
  exact c0
set_option maxHeartbeats 1000000 in
theorem oTake_any {B : Nat} (l : Bytes) (v : Value) (k n : Nat) (w : World) (h : By B w v l) (hn : 1 ≤ n) (hn4 : n ≤ 4) (hk : k + n ≤ l.length) :
  Calls Tryz.prog 158 #[v, .int .i64 (k : Int), .int .i64 (n : Int)] w fun e w' => e = .returned (.tuple #[.int .u32 (beN ((l.drop k).take n) : Nat), .int .i64 0]) ∧ w' = w := by
 obtain ⟨a, cap, rfl, hc, hcm⟩ := h.form
 have hD := h.cut (i := k) (j := k + n) (by omega) hk
 obtain ⟨m, em⟩ : ∃ m, m = (l.take (k + n)).drop k := ⟨_, rfl⟩
 have em2 : (l.drop k).take n = m := by rw [em, List.drop_take, Nat.add_sub_cancel_left]
 have eml : m.length = n := by rw [em, List.length_drop, List.length_take];omega
 rw [em2]
 rw [← em] at hD
 unfold sliced at hD
 rw [if_neg (by omega), Nat.mul_one] at hD
 have t1 : decide ((n : Int) < 1) = false := by simp;omega
 have t2 : decide ((4 : Int) < (n : Int)) = false := by simp;omega
 have t3 : decide ((k : Int) < 0) = false := by simp
 have t4 : decide ((l.length : Int) - (n : Int) < (k : Int)) = false := by simp;omega
 have EML := Lib.hid eml
 clear em em2
 go_enter Tryz.func158, Tryz.ntmps158
 go_wp2
 go_loopw [8, 34] (fun s i wr => ∃ j : Nat, j ≤ n ∧ i = .int .i64 (j : Int) ∧ s = .int .u32 (beN (m.take j) : Nat) ∧ wr = w) (fun s i _ => n - (intOf i).toNat)
 case atStart => exact ⟨0, Nat.zero_le _, rfl, rfl, rfl⟩
 case round =>
  obtain ⟨j, hj, rfl, rfl, rfl⟩ := hrel
  by_cases hlt : j < n
  ·have hjm : j < m.length := by rw [EML.out];exact hlt
   obtain ⟨b, off, ea, hb, c0⟩ := hD.at j hjm
   rw [ea]
   have hs := beN_take m j hjm
   have h3 : beN (m.take j) < 16777216 := by
    refine Nat.lt_of_lt_of_le (beN_lt _) ?_
    rw [List.length_take, Nat.min_eq_left (by omega)]
    exact Nat.pow_le_pow_right (j := 3) (by decide) (by omega)
   have hor := bits_or32 (beN (m.take j)) m[j].toNat h3 (UInt8.toNat_lt _)
   rw [← hs] at hor
   clear hs hD
   go_wp2
   go_roundw
   case rel => exact ⟨j + 1, by omega, by go_num, by first | rfl | rw [hor], trivial⟩
   case measure => simp [intOf];omega
  ·obtain rfl : j = n := by omega
   rw [List.take_of_length_le (by rw [EML.out];omega)]
   go_wp2
   go_ret2
   exact ⟨rfl, rfl⟩
theorem Num_any {B : Nat} (l : Bytes) (v : Value) (k : Nat) (w : World) (h : By B w v l) (hk : k + 4 ≤ l.length) :
  Calls Tryz.prog 160 #[v, .int .i64 (k : Int)] w fun e w' => e = .returned (.int .i64 (numF l k : Nat)) ∧ w' = w := by
 have hT := oTake_any l v k 4 w h (by decide) (by decide) hk
 have hlt : beN ((l.drop k).take 4) < 4294967296 := by
  refine Nat.lt_of_lt_of_le (beN_lt _) ?_
  exact Nat.pow_le_pow_right (j := 4) (by decide) (by rw [List.length_take];omega)
 have e : numF l k = beN ((l.drop k).take 4) := rfl
 rw [e]
 obtain ⟨m, em⟩ : ∃ m, m = beN ((l.drop k).take 4) := ⟨_, rfl⟩
 rw [← em] at hT hlt ⊢
 clear em e
 go_enter Tryz.func160, Tryz.ntmps160
 go_wp2_with fail
 refine hT.mono ?_
 rintro e w' ⟨rfl, rfl⟩
 go_wp2
 go_ret
 exact ⟨by first | rfl | (simp;done) | (simp;omega), rfl⟩
theorem Mis_any (ty st : Nat) (w : World) :
  Calls Tryz.prog 161 #[.int .i64 (ty : Int), .int .i64 (st : Int)] w fun e w' => e = .returned (.bool (misF ty st)) ∧ w' = w := by
 go_enter Tryz.func161, Tryz.ntmps161
 go_wp2
 all_goals go_ret
 all_goals refine ⟨ret_b ?_, rfl⟩
 all_goals (simp only [ibs] at *;simp_all [misF])
theorem Ahead_any (ty fl : Nat) (w : World) (hf : fl < 256) :
  Calls Tryz.prog 198 #[.int .i64 (ty : Int), .int .i64 (fl : Int)] w fun e w' => e = .returned (.int .i64 (aheadF ty fl : Nat)) ∧ w' = w := by
 go_enter Tryz.func198, Tryz.ntmps198
 go_wp2
 all_goals go_ret
 all_goals refine ⟨ret_int ?_, rfl⟩
 all_goals (have g := flgs fl hf;simp_all [aheadF])
 all_goals (first | omega | ((repeat' split) <;> omega))
set_option maxHeartbeats 1000000 in
theorem Size_any (ty fl n : Nat) (w : World) (hf : fl < 256) :
  Calls Tryz.prog 162 #[.int .i64 (ty : Int), .int .i64 (fl : Int), .int .i64 (n : Int)] w fun e w' => e = .returned (.bool (sizeF ty fl n)) ∧ Below w.heap.size w w' := by
 have hA := fun w => Ahead_any ty fl w hf
 have hR : (n : Int).tmod 6 = ((n % 6 : Nat) : Int) := rfl
 have c : ty = 0 ∨ ty = 1 ∨ ty = 2 ∨ ty = 3 ∨ ty = 4 ∨ ty = 6 ∨ ty = 7 ∨ ty = 8 ∨ (ty ≠ 0 ∧ ty ≠ 1 ∧ ty ≠ 2 ∧ ty ≠ 3 ∧ ty ≠ 4 ∧ ty ≠ 6 ∧ ty ≠ 7 ∧ ty ≠ 8) := by omega
 rcases c with rfl | rfl | rfl | rfl | rfl | rfl | rfl | rfl | ⟨n0, n1, n2, n3, n4, n6, n7, n8⟩
 ·obtain ⟨m, em⟩ : ∃ m, m = aheadF 0 fl := ⟨_, rfl⟩
  have e : sizeF 0 fl n = decide (n < m) := by rw [em];rfl
  rw [e]
  rw [← em] at hA
  clear e em hR
  change Calls Tryz.prog 162 #[.int .i64 0, .int .i64 (fl : Int), .int .i64 (n : Int)] w _
  go_enter Tryz.func162, Tryz.ntmps162
  go_wp2_with (go_at_call 198;refine (hA _).mono ?_;rintro e w' ⟨rfl, rfl⟩)
  go_ret
  exact ⟨ret_b (by simp), (Below.refl _ _).alloc (Nat.le_refl _) _⟩
 ·obtain ⟨m, em⟩ : ∃ m, m = aheadF 1 fl := ⟨_, rfl⟩
  have e : sizeF 1 fl n = decide (n < m) := by rw [em];rfl
  rw [e]
  rw [← em] at hA
  clear e em hR
  change Calls Tryz.prog 162 #[.int .i64 1, .int .i64 (fl : Int), .int .i64 (n : Int)] w _
  go_enter Tryz.func162, Tryz.ntmps162
  go_wp2_with (go_at_call 198;refine (hA _).mono ?_;rintro e w' ⟨rfl, rfl⟩)
  go_ret
  exact ⟨ret_b (by simp), (Below.refl _ _).alloc (Nat.le_refl _) _⟩
 ·have s1 := ibs n
  have g := flg1 fl hf
  have S1 := Lib.hid s1
  have G := Lib.hid g
  clear s1 g hA hR
  change Calls Tryz.prog 162 #[.int .i64 2, .int .i64 (fl : Int), .int .i64 (n : Int)] w _
  go_enter Tryz.func162, Tryz.ntmps162
  go_wp2
  all_goals go_ret
  all_goals refine ⟨ret_b ?_, (Below.refl _ _).alloc (Nat.le_refl _) _⟩
  all_goals (have g := G.out;clear G S1;first | (exact inb n _) | (simp_all [sizeF];done) | (simp_all [sizeF];omega) | (simp_all [sizeF];(have a1 : fl % 2 = 1 := by omega);(have a2 : n % 6 = 0 := by omega);(have a3 : (fl : Int) % 2 = 1 := by omega);rw [a1, a2, a3];exact inb n 0))
 ·have s1 := ibs n
  have g := flg1 fl hf
  have S1 := Lib.hid s1
  have G := Lib.hid g
  clear s1 g hA hR
  change Calls Tryz.prog 162 #[.int .i64 3, .int .i64 (fl : Int), .int .i64 (n : Int)] w _
  go_enter Tryz.func162, Tryz.ntmps162
  go_wp2
  all_goals go_ret
  all_goals refine ⟨ret_b ?_, (Below.refl _ _).alloc (Nat.le_refl _) _⟩
  all_goals (have g := G.out;clear G S1;first | (exact inb n _) | (simp_all [sizeF];done) | (simp_all [sizeF];omega) | (simp_all [sizeF];(have a1 : fl % 2 = 1 := by omega);(have a2 : n % 6 = 0 := by omega);(have a3 : (fl : Int) % 2 = 1 := by omega);rw [a1, a2, a3];exact inb n 0))
 ·have s1 := ibs n
  have g := flg1 fl hf
  have S1 := Lib.hid s1
  have G := Lib.hid g
  clear s1 g hA
  change Calls Tryz.prog 162 #[.int .i64 4, .int .i64 (fl : Int), .int .i64 (n : Int)] w _
  go_enter Tryz.func162, Tryz.ntmps162
  go_wp2
  all_goals go_ret
  all_goals refine ⟨ret_b ?_, (Below.refl _ _).alloc (Nat.le_refl _) _⟩
  all_goals (have g := G.out;clear G S1;first | (exact inb n _) | (simp_all [sizeF];done) | (simp_all [sizeF];omega) | (simp_all [sizeF];(have a1 : fl % 2 = 1 := by omega);(have a2 : n % 6 = 0 := by omega);(have a3 : (fl : Int) % 2 = 1 := by omega);rw [a1, a2, a3];exact inb n 0))
 ·have s1 := ibs n
  have g := flg1 fl hf
  have S1 := Lib.hid s1
  have G := Lib.hid g
  clear s1 g hA hR
  change Calls Tryz.prog 162 #[.int .i64 6, .int .i64 (fl : Int), .int .i64 (n : Int)] w _
  go_enter Tryz.func162, Tryz.ntmps162
  go_wp2
  all_goals go_ret
  all_goals refine ⟨ret_b ?_, (Below.refl _ _).alloc (Nat.le_refl _) _⟩
  all_goals (have g := G.out;clear G S1;first | (exact inb n _) | (simp_all [sizeF];done) | (simp_all [sizeF];omega) | (simp_all [sizeF];(have a1 : fl % 2 = 1 := by omega);(have a2 : n % 6 = 0 := by omega);(have a3 : (fl : Int) % 2 = 1 := by omega);rw [a1, a2, a3];exact inb n 0))
 ·have s1 := ibs n
  have g := flg1 fl hf
  have S1 := Lib.hid s1
  have G := Lib.hid g
  clear s1 g hA hR
  change Calls Tryz.prog 162 #[.int .i64 7, .int .i64 (fl : Int), .int .i64 (n : Int)] w _
  go_enter Tryz.func162, Tryz.ntmps162
  go_wp2
  all_goals go_ret
  all_goals refine ⟨ret_b ?_, (Below.refl _ _).alloc (Nat.le_refl _) _⟩
  all_goals (have g := G.out;clear G S1;first | (exact inb n _) | (simp_all [sizeF];done) | (simp_all [sizeF];omega) | (simp_all [sizeF];(have a1 : fl % 2 = 1 := by omega);(have a2 : n % 6 = 0 := by omega);(have a3 : (fl : Int) % 2 = 1 := by omega);rw [a1, a2, a3];exact inb n 0))
 ·have s1 := ibs n
  have g := flg1 fl hf
  have S1 := Lib.hid s1
  have G := Lib.hid g
  clear s1 g hA hR
  change Calls Tryz.prog 162 #[.int .i64 8, .int .i64 (fl : Int), .int .i64 (n : Int)] w _
  go_enter Tryz.func162, Tryz.ntmps162
  go_wp2
  all_goals go_ret
  all_goals refine ⟨ret_b ?_, (Below.refl _ _).alloc (Nat.le_refl _) _⟩
  all_goals (have g := G.out;clear G S1;first | (exact inb n _) | (simp_all [sizeF];done) | (simp_all [sizeF];omega) | (simp_all [sizeF];(have a1 : fl % 2 = 1 := by omega);(have a2 : n % 6 = 0 := by omega);(have a3 : (fl : Int) % 2 = 1 := by omega);rw [a1, a2, a3];exact inb n 0))
 ·have d0 : ((ty : Int) == 0) = false := i_ne (b := 0) n0
  have d1 : ((ty : Int) == 1) = false := i_ne (b := 1) n1
  have d2 : ((ty : Int) == 2) = false := i_ne (b := 2) n2
  have d3 : ((ty : Int) == 3) = false := i_ne (b := 3) n3
  have d4 : ((ty : Int) == 4) = false := i_ne (b := 4) n4
  have d6 : ((ty : Int) == 6) = false := i_ne (b := 6) n6
  have d7 : ((ty : Int) == 7) = false := i_ne (b := 7) n7
  have d8 : ((ty : Int) == 8) = false := i_ne (b := 8) n8
  have e : sizeF ty fl n = false := by simp [sizeF, n0, n1, n2, n3, n4, n6, n7, n8]
  rw [e]
  clear e hR hA n0 n1 n2 n3 n4 n6 n7 n8
  go_enter Tryz.func162, Tryz.ntmps162
  go_wp2
  go_ret
  exact ⟨rfl, (Below.refl _ _).alloc (Nat.le_refl _) _⟩
end Go.Proofs.YtkeeofhjdffhbaaGreatDoor
namespace Go.Dr
open Go.RowKit
abbrev Ptr (b : Nat) : Value := .pointer (some ⟨b, 0, none⟩)
/-- What a link holds beside its two pointers. -/
structure K where
 id : Int
 cost : Int
 key : Bytes
 vp : Value
 st : Int
 vf : Value
 body : Bytes
 asked : Int
 came : Int
def K.cells (k : K) (p q : Nat) : Array Value := #[.int .i64 k.id, .int .i64 k.cost, S k.key, k.vp, .int .i64 k.st, k.vf, S k.body, .int .i64 k.asked, .int .i64 k.came, Ptr p, Ptr q]
/-- The root holds nothing. -/
def K.zero : K := ⟨0, 0, [], .slice none 0 0, 0, .slice none 0 0, [], 0, 0⟩
abbrev N := Nat × K
/-- The block of the first, of the last, of some links;r, where there are none. -/
def headOr (l : List N) (r : Nat) : Nat := match l with | [] => r | n :: _ => n.1
def lastOr (l : List N) (r : Nat) : Nat := match l with | [] => r | n :: l => lastOr l n.1
@[simp] theorem headOr_nil (r : Nat) : headOr [] r = r := rfl
@[simp] theorem headOr_cons (n : N) (l : List N) (r : Nat) : headOr (n :: l) r = n.1 := rfl
@[simp] theorem lastOr_nil (r : Nat) : lastOr [] r = r := rfl
@[simp] theorem lastOr_cons (n : N) (l : List N) (r : Nat) : lastOr (n :: l) r = lastOr l n.1 := rfl
theorem headOr_append (a b : List N) (r : Nat) : headOr (a ++ b) r = headOr a (headOr b r) := by cases a <;> rfl
theorem lastOr_append (a b : List N) (r : Nat) : lastOr (a ++ b) r = lastOr b (lastOr a r) := by
 induction a generalizing r with
 | nil => rfl
 | cons n a ih => simp [ih]
theorem lastOr_mem (l : List N) (r : Nat) : lastOr l r = r ∨ lastOr l r ∈ l.map (·.1) := by
 induction l generalizing r with
 | nil => exact .inl rfl
 | cons n l ih =>
  rcases ih n.1 with h | h
  ·exact .inr (by simp [h])
  ·exact .inr (by simp at h ⊢;exact .inr h)
/-- Links one behind the other: p is ahead of the first, q behind the last. -/
def Chain (w : World) (t : TypeId) : Nat → List N → Nat → Prop
 | _, [], _ => True
 | p, n :: l, q => Blk w n.1 t (n.2.cells p (headOr l q)) ∧ Chain w t n.1 l q
theorem Chain.append {w : World} {t : TypeId} {p q : Nat} {a b : List N} : Chain w t p (a ++ b) q ↔ Chain w t p a (headOr b q) ∧ Chain w t (lastOr a p) b q := by
 induction a generalizing p with
 | nil => simp [Chain]
 | cons n a ih =>
  simp only [List.cons_append, Chain, lastOr_cons, ih, headOr_append]
  exact ⟨fun h => ⟨⟨h.1, h.2.1⟩, h.2.2⟩, fun h => ⟨h.1.1, h.1.2, h.2⟩⟩
/-- A chain stays where its blocks do. -/
theorem Chain.block {w w' : World} {t : TypeId} {p q : Nat} {l : List N} (h : Chain w t p l q) (hb : ∀ b ∈ l.map (·.1), w'.heap[b]? = w.heap[b]?) : Chain w' t p l q := by
 induction l generalizing p with
 | nil => trivial
 | cons n l ih =>
  exact ⟨h.1.block (hb _ (by simp)), ih h.2 fun b hb' => hb b (by simp at hb' ⊢;exact .inr hb')⟩
theorem Chain.lt {w : World} {t : TypeId} {p q : Nat} {l : List N} (h : Chain w t p l q) {b : Nat} (hb : b ∈ l.map (·.1)) : b < w.heap.size := by
 induction l generalizing p with
 | nil => cases hb
 | cons n l ih =>
  simp only [List.map_cons, List.mem_cons] at hb
  rcases hb with rfl | hb
  ·exact h.1.lt
  ·exact ih h.2 hb
theorem Chain.below {w w' : World} {t : TypeId} {p q : Nat} {l : List N} (h : Chain w t p l q) (hb : Below w.heap.size w w') : Chain w' t p l q := h.block fun _ hm => hb.block _ (h.lt hm)
theorem Chain.far {w : World} {t : TypeId} {p q : Nat} {l : List N} (h : Chain w t p l q) {a : Addr} (ha : a.block ∉ l.map (·.1)) (u : Value) : Chain (w.setCell a u) t p l q :=
 h.block fun b hb => Below.heap_setCell w a u b fun e => ha (e ▸ hb)
theorem Chain.at {w : World} {t : TypeId} {p q : Nat} {a b : List N} {n : N} (h : Chain w t p (a ++ n :: b) q) : Blk w n.1 t (n.2.cells (lastOr a p) (headOr b q)) := (Chain.append.1 h).2.1
theorem K.set9 (k : K) (p q r : Nat) : (k.cells p q).setIfInBounds 9 (Ptr r) = k.cells r q := by simp [K.cells]
theorem K.set10 (k : K) (p q r : Nat) : (k.cells p q).setIfInBounds 10 (Ptr r) = k.cells p r := by simp [K.cells]
/-- The last one's pointer to the next one is turned. -/
theorem Chain.setNext {w : World} {t : TypeId} {p q r : Nat} {l : List N} (h : Chain w t p l q) (hn : (l.map (·.1)).Nodup) (hl : l ≠ []) : Chain (w.setCell ⟨lastOr l p, 10, none⟩ (Ptr r)) t p l r := by
 induction l generalizing p with
 | nil => exact absurd rfl hl
 | cons n l ih =>
  simp only [List.map_cons, List.nodup_cons] at hn
  cases l with
  | nil =>
   refine ⟨?_, trivial⟩
   have := h.1.set 10 (Ptr r)
   rwa [K.set10] at this
  | cons m l =>
   refine ⟨h.1.other ?_ _, ih h.2 hn.2 (by simp)⟩
   rcases lastOr_mem l m.1 with e | e
   ·simp only [lastOr_cons, e]
    exact fun e2 => hn.1 (by simp [e2])
   ·simp only [lastOr_cons]
    exact fun e2 => hn.1 (by rw [e2];simp at e ⊢;exact .inr e)
/-- The first one's pointer to the one ahead is turned. -/
theorem Chain.setAhead {w : World} {t : TypeId} {p q r : Nat} {l : List N} (h : Chain w t p l q) (hn : (l.map (·.1)).Nodup) (z : Nat) (hl : l ≠ []) : Chain (w.setCell ⟨headOr l z, 9, none⟩ (Ptr r)) t r l q := by
 cases l with
 | nil => exact absurd rfl hl
 | cons n l =>
  simp only [List.map_cons, List.nodup_cons] at hn
  refine ⟨?_, h.2.far hn.1 _⟩
  have := h.1.set 9 (Ptr r)
  rwa [K.set9] at this
/-- A ring: the root r and the links behind it. -/
structure Ring (w : World) (t : TypeId) (r : Nat) (l : List N) : Prop where
 nodup : (r :: l.map (·.1)).Nodup
 chain : Chain w t (lastOr l r) ((r, K.zero) :: l) r
theorem Ring.block {w w' : World} {t : TypeId} {r : Nat} {l : List N} (h : Ring w t r l) (hb : ∀ b ∈ r :: l.map (·.1), w'.heap[b]? = w.heap[b]?) : Ring w' t r l := ⟨h.nodup, h.chain.block hb⟩
theorem Ring.lt {w : World} {t : TypeId} {r : Nat} {l : List N} (h : Ring w t r l) {b : Nat} (hb : b ∈ r :: l.map (·.1)) : b < w.heap.size := h.chain.lt hb
theorem Ring.below {w w' : World} {t : TypeId} {r : Nat} {l : List N} (h : Ring w t r l) (hb : Below w.heap.size w w') : Ring w' t r l := ⟨h.nodup, h.chain.below hb⟩
theorem Ring.at {w : World} {t : TypeId} {r : Nat} {a b : List N} {n : N} (h : Ring w t r (a ++ n :: b)) : Blk w n.1 t (n.2.cells (lastOr a r) (headOr b r)) := by
 have := h.chain
 rw [← List.cons_append] at this
 exact this.at
/-- A link leaves: 'l.ahead.next, l.next.ahead = l.next, l.ahead'. -/
theorem Ring.out {w : World} {t : TypeId} {r : Nat} {a b : List N} {n : N} (h : Ring w t r (a ++ n :: b)) :
  Ring ((w.setCell ⟨lastOr a r, 10, none⟩ (Ptr (headOr b r))).setCell ⟨headOr b r, 9, none⟩ (Ptr (lastOr a r))) t r (a ++ b) := by
 obtain ⟨hn, hc⟩ := h
 have hn' : (r :: (a ++ b).map (·.1)).Nodup := by
  simp only [List.map_append, List.map_cons, List.nodup_cons, List.nodup_append, List.mem_append, List.mem_cons] at hn ⊢
  grind
 refine ⟨hn', ?_⟩
 have hnA : (((r, K.zero) :: a).map (·.1)).Nodup := by
  simp only [List.map_append, List.map_cons, List.nodup_cons, List.nodup_append, List.mem_append, List.mem_cons] at hn ⊢
  grind
 have hnB : (b.map (·.1)).Nodup := by
  simp only [List.map_append, List.map_cons, List.nodup_cons, List.nodup_append, List.mem_append, List.mem_cons] at hn ⊢
  grind
 have hAB : ∀ x ∈ r :: a.map (·.1), x ∉ b.map (·.1) := by
  simp only [List.map_append, List.map_cons, List.nodup_cons, List.nodup_append, List.mem_append, List.mem_cons] at hn ⊢
  grind
 rw [← List.cons_append] at hc ⊢
 obtain ⟨h1, h2⟩ := Chain.append.1 hc
 obtain ⟨-, h3⟩ := h2
 have hA := h1.setNext (r := headOr b r) hnA (by simp)
 have hlast : lastOr ((r, K.zero) :: a) (lastOr (a ++ n :: b) r) = lastOr a r := rfl
 rw [hlast] at hA
 have hpm : lastOr a r ∈ r :: a.map (·.1) := by rcases lastOr_mem a r with e | e <;> simp [e]
 have hB := h3.far (a := ⟨lastOr a r, 10, none⟩) (hAB _ hpm) (Ptr (headOr b r))
 cases hbn : b with
 | nil =>
  subst hbn
  simp only [List.append_nil, headOr_nil, lastOr_append, lastOr_cons, lastOr_nil] at *
  exact hA.setAhead (r := lastOr a r) hnA r (by simp)
 | cons m b' =>
  have hne : b ≠ [] := by rw [hbn];simp
  rw [← hbn]
  refine Chain.append.2 ⟨?_, ?_⟩
  ·have hq : headOr b r ∉ ((r, K.zero) :: a).map (·.1) := by
    intro hm
    refine hAB _ hm ?_
    rw [hbn];simp
   have e : lastOr (a ++ b) r = lastOr (a ++ n :: b) r := by
    rw [lastOr_append, lastOr_append, hbn];rfl
   rw [e]
   exact hA.far hq _
  ·have := hB.setAhead (r := lastOr a r) hnB r hne
   exact this
/-- Nothing that was there has turned, but, from block B on, objects of some kind. -/
structure Frame (B : Nat) (T : Obj → Prop) (w w' : World) : Prop where
 os : w'.os = w.os
 tape : w'.tape = w.tape
 output : w'.output = w.output
 size : w.heap.size ≤ w'.heap.size
 block : ∀ k, k < w.heap.size → (k < B ∨ ∀ o, w.heap[k]? = some o → ¬ T o) → w'.heap[k]? = w.heap[k]?
theorem Frame.refl (B : Nat) (T : Obj → Prop) (w : World) : Frame B T w w := ⟨rfl, rfl, rfl, Nat.le_refl _, fun _ _ _ => rfl⟩
theorem Frame.of_below {B : Nat} {T : Obj → Prop} {w w' : World} (h : Below w.heap.size w w') : Frame B T w w' := ⟨h.os, h.tape, h.output, h.size, fun k hk _ => h.block k hk⟩
theorem Frame.trans {B : Nat} {T : Obj → Prop} {a b c : World} (h : Frame B T a b) (k : Frame B T b c) : Frame B T a c :=
 ⟨k.os.trans h.os, k.tape.trans h.tape, k.output.trans h.output, Nat.le_trans h.size k.size, fun i hi hT => by
  have e := h.block i hi hT
  exact (k.block i (Nat.lt_of_lt_of_le hi h.size) (hT.imp id fun hT o ho => hT o (e ▸ ho))).trans e⟩
theorem Frame.more {B B' : Nat} {T T' : Obj → Prop} {a b : World} (h : Frame B T a b) (hB : B' ≤ B) (hT : ∀ o, T o → T' o) : Frame B' T' a b :=
 ⟨h.os, h.tape, h.output, h.size, fun i hi hX => h.block i hi (hX.imp (fun h => by omega) fun hX o ho ht => hX o ho (hT o ht))⟩
theorem Frame.drew {B : Nat} {T : Obj → Prop} {a w : World} (h : Frame B T a w) : Frame B T a w.drew := ⟨h.os, h.tape, h.output, h.size, h.block⟩
theorem Frame.alloc {B : Nat} {T : Obj → Prop} {a w : World} (h : Frame B T a w) (o : Obj) : Frame B T a (w.alloc o) := h.trans (Frame.of_below ((Below.refl _ _).alloc (Nat.le_refl _) _))
theorem Frame.step {B : Nat} {T : Obj → Prop} {w : World} {p : Addr} {o : Obj} (hp : B ≤ p.block) (ho : w.heap[p.block]? = some o) (hT : T o) (u : Value) : Frame B T w (w.setCell p u) :=
 ⟨rfl, rfl, rfl, by simp [World.setCell], fun i _ hX => Below.heap_setCell w p u i fun e => by
  subst e
  rcases hX with h | h
  ·omega
  ·exact h _ ho hT⟩
/-- A store into what is new. -/
theorem Frame.new {B : Nat} {T : Obj → Prop} {a w : World} (h : Frame B T a w) {p : Addr} (hp : a.heap.size ≤ p.block) (u : Value) : Frame B T a (w.setCell p u) :=
 ⟨h.os, h.tape, h.output, by simpa [World.setCell] using h.size, fun i hi hX => (Below.heap_setCell w p u i (fun e => by omega)).trans (h.block i hi hX)⟩
theorem Frame.setCell {B : Nat} {T : Obj → Prop} {a w : World} (h : Frame B T a w) {p : Addr} {o : Obj} (hp : B ≤ p.block) (ho : w.heap[p.block]? = some o) (hT : T o) (u : Value) : Frame B T a (w.setCell p u) := h.trans (Frame.step hp ho hT u)
theorem Frame.grown {B : Nat} {T : Obj → Prop} {w w' : World} {b : Nat} {o : Obj} (hg : w.grownBy w' (some b)) (hB : B ≤ b) (ho : w.heap[b]? = some o) (hT : T o) : Frame B T w w' :=
 ⟨hg.os, hg.tape, hg.output, hg.size, fun i hi hX => hg.block i hi (fun e => by
  obtain rfl := Option.some.inj e
  rcases hX with h | h
  ·omega
  ·exact h _ ho hT)⟩
theorem Frame.below {B : Nat} {T : Obj → Prop} {a b : World} (h : Frame B T a b) (hB : B ≤ a.heap.size) : Below B a b := ⟨h.os, h.tape, h.output, h.size, fun i hi => h.block i (by omega) (.inl hi)⟩
theorem Blk.frame {B : Nat} {T : Obj → Prop} {w w' : World} {b : Nat} {t : TypeId} {xs : Array Value} (h : Blk w b t xs) (hf : Frame B T w w') (hT : ¬ T (.cells xs t (0, 0))) : Blk w' b t xs :=
 h.block (hf.block b h.lt (.inr fun o ho => by rw [show w.heap[b]? = _ from h] at ho;injection ho with ho;subst ho;exact hT))
theorem Rd.frame {B B0 : Nat} {T : Obj → Prop} {w w' : World} {size : Nat} {v : Value} {n : Nat} {xs : List Value} (h : Rd B w size v n xs) (hf : Frame B0 T w w') (hB : B ≤ B0) (hw : B ≤ w.heap.size) : Rd B w' size v n xs := h.below ⟨hf.os, hf.tape, hf.output, hf.size, fun i hi => hf.block i (by omega) (.inl (by omega))⟩
end Go.Dr
namespace Go.Dr
open Go Go.RowKit
/-- How a pointer to a whole block reads. -/
def Rp : Value → Option (DataW Unit × List MemPlace)
 | .pointer none => some (.nil, [])
 | .pointer (some ⟨b, 0, none⟩) => some (.lit (.int .i64 (b : Int)), [])
 | _ => none
theorem Rp_ptr (b : Nat) : Rp (Ptr b) = some (.lit (.int .i64 (b : Int)), []) := rfl
theorem Rp_inv {v : Value} {b : Nat} {ps : List MemPlace} (h : Rp v = some (.lit (.int .i64 (b : Int)), ps)) : v = Ptr b := by
 unfold Rp at h
 split at h
 ·cases h
 ·rename_i c
  simp only [Option.some.injEq, Prod.mk.injEq, DataW.lit.injEq, Lit.int.injEq, true_and] at h
  have : c = b := by omega
  rw [this]
 ·cases h
theorem Rp_nil {v : Value} {ps : List MemPlace} (h : Rp v = some (.nil, ps)) : v = .pointer none := by
 unfold Rp at h
 split at h
 ·rfl
 ·cases h
 ·cases h
theorem World.ownsMap.tight {H : Type} {w : World} {P : Program} {k : TypeId} {R : Value → Option (DataW H × List MemPlace)} {b n : Nat} {D : DataW H} (h : w.ownsMap P k R b n D) : w.ownsMap P k R b (Maps.size D) D := by
 obtain ⟨es, clock, hb, F, _, rfl⟩ := h
 exact ⟨es, clock, hb, F, by simp [Maps.size, length_sorted], rfl⟩
/-- Block m is a map that leads from these numbers to these blocks. -/
def PMap (P : Program) (kt : TypeId) (w : World) (m : Nat) (l : List (Int × Nat)) : Prop :=
 ∃ D : DataW Unit, w.ownsMap P kt Rp m l.length D ∧ Maps.Tidy D ∧ Maps.size D = l.length ∧ (l.map (·.1)).Nodup ∧ (∀ p ∈ l, (Lit.int .i64 p.1).wf = true) ∧ (∀ i : Int, Maps.has D (.int .i64 i) = l.any fun p => p.1 == i) ∧ ∀ p ∈ l, ∀ z, D.atKey (.int .i64 p.1) z = .lit (.int .i64 (p.2 : Int))
theorem PMap.made {P : Program} {kt : TypeId} {w : World} {m : Nat} (h : w.heap[m]? = some (.map #[] 0)) : PMap P kt w m [] :=
 ⟨.map [], ⟨#[], 0, h, ⟨by simp, MapKept.stamped_empty 0, by simp⟩, Nat.le_refl _, rfl⟩, Maps.tidy_empty, rfl, by simp, by simp, fun _ => rfl, by simp⟩
theorem PMap.lt {P : Program} {kt : TypeId} {w : World} {m : Nat} {l : List (Int × Nat)} (h : PMap P kt w m l) : m < w.heap.size := by
 obtain ⟨D, h, _⟩ := h
 exact h.lt
theorem PMap.obj {P : Program} {kt : TypeId} {w : World} {m : Nat} {l : List (Int × Nat)} (h : PMap P kt w m l) : ∃ es clock, w.heap[m]? = some (.map es clock) := by
 obtain ⟨D, ⟨es, clock, h, _⟩, _⟩ := h
 exact ⟨es, clock, h⟩
theorem PMap.block {P : Program} {kt : TypeId} {w w' : World} {m : Nat} {l : List (Int × Nat)} (h : PMap P kt w m l) (hb : w'.heap[m]? = w.heap[m]?) : PMap P kt w' m l := by
 obtain ⟨D, ⟨es, clock, h1, h2⟩, hD⟩ := h
 exact ⟨D, ⟨es, clock, hb.trans h1, h2⟩, hD⟩
section
variable {P : Program} {kt et t : TypeId} {w : World} {m : Nat} {l : List (Int × Nat)}
theorem lit_i {i j : Int} (h : i ≠ j) : Lit.int .i64 i ≠ .int .i64 j := fun e => h (by cases e;rfl)
theorem mem_more {α : Type} {a b : List α} {p q : α} (h : q ∈ a ++ b) : q ∈ a ++ p :: b := by
 rcases List.mem_append.1 h with h | h
 ·exact List.mem_append.2 (.inl h)
 ·exact List.mem_append.2 (.inr (.tail _ h))
/-- 'delete(m, i)': a number that is there. -/
theorem PMap.drop {a b : List (Int × Nat)} {p : Int × Nat} (h : PMap P kt w m (a ++ p :: b)) (hk : P.underlying kt = some (.int .i64)) (ht : P.underlying t = some (.map kt et)) (ty : TypeId) :
  ∃ w', (Builtin.delete_ #[t, kt] ty #[.map (some m), .int .i64 p.1]).run P w = .ok (.tuple #[]) w' ∧ PMap P kt w' m (a ++ b) ∧ w.mapTurned w' m := by
 obtain ⟨D, h1, h2, h3, h4, h5, h6, h7⟩ := h
 have hw := h5 p (by simp)
 obtain ⟨w', hrun, ho, hm⟩ := h1.drop (Maps.int_keyed hk) ht (Maps.keyOf_int_mk hk hw) ty
 have hh : Maps.has D (.int .i64 p.1) = true := by rw [h6, List.any_eq_true];exact ⟨p, by simp, by simp⟩
 have hsz := Maps.size_del (k := .int .i64 p.1) h2
 rw [hh] at hsz
 have hs2 : Maps.size (D.del (.int .i64 p.1)) = (a ++ b).length := by simp at h3 hsz ⊢;omega
 have hnd : ∀ q ∈ a ++ b, q.1 ≠ p.1 := by
  intro q hq e
  simp only [List.map_append, List.map_cons, List.nodup_append, List.nodup_cons, List.mem_append, List.mem_cons] at h4 hq
  obtain ⟨-, ⟨h8, -⟩, h9⟩ := h4
  rcases hq with hq | hq
  ·exact h9 q.1 (List.mem_map_of_mem hq) p.1 (by simp) e
  ·exact h8 (e ▸ List.mem_map_of_mem hq)
 refine ⟨w', hrun, ⟨_, by rw [← hs2];exact World.ownsMap.tight ho, h2.del _, hs2, ?_, fun q hq => h5 q (mem_more hq), fun i => ?_, fun q hq z => ?_⟩, hm⟩
 ·simp only [List.map_append, List.map_cons, List.nodup_append, List.nodup_cons, List.mem_cons] at h4 ⊢
  exact ⟨h4.1, h4.2.1.2, fun x hx y hy => h4.2.2 x hx y (.inr hy)⟩
 ·by_cases e : i = p.1
  ·subst e
   rw [Maps.has_del_same]
   exact (List.any_eq_false.2 fun q hq => by simpa using hnd q hq).symm
  ·rw [Maps.has_del_other (lit_i e), h6]
   have : (p.1 == i) = false := by simpa using fun e1 => e e1.symm
   simp [this]
 ·rw [Maps.atKey_del_other (lit_i (hnd q hq))]
  exact h7 q (mem_more hq) z
/-- 'm[i] = p': a number that isn't there. -/
theorem PMap.put (h : PMap P kt w m l) (hk : P.underlying kt = some (.int .i64)) (ht : P.underlying t = some (.map kt et)) (i : Int) (b : Nat) (hw : (Lit.int .i64 i).wf = true) (hi : ∀ p ∈ l, p.1 ≠ i) (hn : l.length < maxLen) :
  ∃ w', (Instr.mapUpdate t (.map (some m)) (.int .i64 i) (Ptr b)).run P w = .ok () w' ∧ PMap P kt w' m (l ++ [(i, b)]) ∧ w.mapTurned w' m := by
 obtain ⟨D, h1, h2, h3, h4, h5, h6, h7⟩ := h
 obtain ⟨w', hrun, ho, hm⟩ := h1.store (Maps.int_keyed hk) ht hn (Maps.keyOf_int_mk hk hw) (Rp_ptr b)
 have hkl : WideAt.IsKeyLit (Lit.int .i64 i) := by trivial
 have hh : Maps.has D (.int .i64 i) = false := by rw [h6, List.any_eq_false];intro p hp;simpa using hi p hp
 have hs2 : Maps.size (D.put (.int .i64 i) (.lit (.int .i64 (b : Int)))) = l.length + 1 := by rw [Maps.size_put h2, hh, h3];simp
 refine ⟨w', hrun, ⟨_, by simpa using ho, h2.put hkl _, by simpa using hs2, ?_, fun q hq => ?_, fun j => ?_, fun q hq z => ?_⟩, hm⟩
 ·rw [List.map_append, List.nodup_append]
  refine ⟨h4, by simp, fun x hx y hy e => ?_⟩
  simp only [List.map_cons, List.map_nil, List.mem_singleton] at hy
  obtain ⟨p, hp, e2⟩ := List.mem_map.1 hx
  exact hi p hp (by rw [e2, e, hy])
 ·rcases List.mem_append.1 hq with hq | hq
  ·exact h5 q hq
  ·simp at hq;rw [hq];exact hw
 ·by_cases e : j = i
  ·subst e
   rw [Maps.has_put_same h2.isMap hkl]
   simp
  ·rw [Maps.has_put_other (lit_i e), h6]
   have : (i == j) = false := by simpa using fun e1 => e e1.symm
   simp [this]
 ·rcases List.mem_append.1 hq with hq | hq
  ·rw [Maps.atKey_put_other (lit_i (hi q hq))]
   exact h7 q hq z
  ·simp at hq
   rw [hq]
   exact Maps.atKey_put_same h2.isMap hkl _ _
theorem PMap.len (h : PMap P kt w m l) (ht : P.underlying t = some (.map kt et)) (ty : TypeId) : (Builtin.len_ #[t] ty #[.map (some m)]).run P w = .ok (.int .i64 (l.length : Nat)) w := by
 obtain ⟨D, h1, h2, h3, _⟩ := h
 rw [h1.len ht ty, h3]
end
/-- Nothing that was there has turned but some blocks. -/
structure But (S : Nat → Prop) (w w' : World) : Prop where
 os : w'.os = w.os
 tape : w'.tape = w.tape
 output : w'.output = w.output
 size : w.heap.size ≤ w'.heap.size
 block : ∀ k, k < w.heap.size → ¬ S k → w'.heap[k]? = w.heap[k]?
theorem But.refl (S : Nat → Prop) (w : World) : But S w w := ⟨rfl, rfl, rfl, Nat.le_refl _, fun _ _ _ => rfl⟩
theorem But.of_below {S : Nat → Prop} {w w' : World} (h : Below w.heap.size w w') : But S w w' := ⟨h.os, h.tape, h.output, h.size, fun k hk _ => h.block k hk⟩
theorem But.trans {S : Nat → Prop} {a b c : World} (h : But S a b) (k : But S b c) : But S a c :=
 ⟨k.os.trans h.os, k.tape.trans h.tape, k.output.trans h.output, Nat.le_trans h.size k.size, fun i hi hS => (k.block i (Nat.lt_of_lt_of_le hi h.size) hS).trans (h.block i hi hS)⟩
/-- .. what came later may turn too. -/
theorem But.trans2 {S S' : Nat → Prop} {a b c : World} (h : But S a b) (k : But S' b c) (hS : ∀ i, S' i → S i ∨ a.heap.size ≤ i) : But S a c :=
 ⟨k.os.trans h.os, k.tape.trans h.tape, k.output.trans h.output, Nat.le_trans h.size k.size, fun i hi hs => (k.block i (Nat.lt_of_lt_of_le hi h.size) (fun h1 => (hS i h1).elim hs (fun h2 => by omega))).trans (h.block i hi hs)⟩
theorem But.more {S S' : Nat → Prop} {a b : World} (h : But S a b) (hS : ∀ i, S i → S' i) : But S' a b := ⟨h.os, h.tape, h.output, h.size, fun i hi hs => h.block i hi fun h1 => hs (hS i h1)⟩
theorem But.drew {S : Nat → Prop} {a w : World} (h : But S a w) : But S a w.drew := ⟨h.os, h.tape, h.output, h.size, h.block⟩
theorem But.alloc {S : Nat → Prop} {a w : World} (h : But S a w) (o : Obj) : But S a (w.alloc o) := h.trans (But.of_below ((Below.refl _ _).alloc (Nat.le_refl _) _))
theorem But.step {S : Nat → Prop} {w : World} {p : Addr} (hp : S p.block) (u : Value) : But S w (w.setCell p u) :=
 ⟨rfl, rfl, rfl, by simp [World.setCell], fun i _ hS => Below.heap_setCell w p u i fun e => hS (e ▸ hp)⟩
theorem But.setCell {S : Nat → Prop} {a w : World} (h : But S a w) {p : Addr} (hp : S p.block ∨ a.heap.size ≤ p.block) (u : Value) : But S a (w.setCell p u) :=
 ⟨h.os, h.tape, h.output, by simpa [World.setCell] using h.size, fun i hi hS => (Below.heap_setCell w p u i fun e => hp.elim (fun h => hS (e ▸ h)) fun h => by omega).trans (h.block i hi hS)⟩
theorem But.grown {S : Nat → Prop} {w w' : World} {b : Nat} (hg : w.grownBy w' (some b)) (hb : S b) : But S w w' :=
 ⟨hg.os, hg.tape, hg.output, hg.size, fun i hi hS => hg.block i hi fun e => hS ((Option.some.inj e) ▸ hb)⟩
theorem But.below {S : Nat → Prop} {a b : World} (h : But S a b) {B : Nat} (hS : ∀ k, S k → B ≤ k) (hB : B ≤ a.heap.size) : Below B a b := ⟨h.os, h.tape, h.output, h.size, fun i hi => h.block i (by omega) fun hs => by have := hS i hs;omega⟩
theorem Blk.but {S : Nat → Prop} {w w' : World} {b : Nat} {t : TypeId} {xs : Array Value} (h : Blk w b t xs) (hf : But S w w') (hS : ¬ S b) : Blk w' b t xs := h.block (hf.block b h.lt hS)
/-- A row stays where its block does. -/
theorem own_block {base : Nat} {w w' : World} {e : TypeId} {size : Nat} {v : Value} {n : Nat} {xs : List Value} (h : w.ownsRow base e size v n xs) (hb : ∀ g cur, w.heap[g]? = some (.cells cur e (0, 0)) → base ≤ g → w'.heap[g]? = w.heap[g]?) : w'.ownsRow base e size v n xs := by
 refine ⟨h.1, ?_⟩
 rcases h.2 with hn | ⟨g, cap, cur, rfl, hbg, hgg, rest⟩
 ·exact .inl hn
 ·exact .inr ⟨g, cap, cur, rfl, hbg, by rw [hb g cur hgg hbg];exact hgg, rest⟩
end Go.Dr
