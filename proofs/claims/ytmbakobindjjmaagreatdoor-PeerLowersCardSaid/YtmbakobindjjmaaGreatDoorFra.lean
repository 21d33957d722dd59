
/- Plain words of frames: numbers out of bytes, flags, what a frame's bytes say. -/
import Derived.Test.YtmbakobindjjmaaGreatDoorBase
namespace Go.Proofs.YtmbakobindjjmaaGreatDoor
open Go.RowKit Go.Dr

/-! ### numbers out of bytes -/
def beN (l : Bytes) : Nat := l.foldl (fun n c => n * 256 + c.toNat) 0
theorem beN_snoc (l : Bytes) (c : UInt8) : beN (l ++ [c]) = beN l * 256 + c.toNat := by simp [beN]
theorem beN_from (l : Bytes) : ∀ a : Nat, l.foldl (fun n c => n * 256 + c.toNat) a < (a + 1) * 256 ^ l.length := by
  induction l with
  | nil => intro a; simp
  | cons c l ih =>
    intro a
    rw [List.foldl_cons, List.length_cons, Nat.pow_succ]
    refine Nat.lt_of_lt_of_le (ih _) ?_
    have := c.toNat_lt
    calc (a * 256 + c.toNat + 1) * 256 ^ l.length ≤ ((a + 1) * 256) * 256 ^ l.length := Nat.mul_le_mul_right _ (by omega)
      _ = (a + 1) * (256 ^ l.length * 256) := by rw [Nat.mul_assoc, Nat.mul_comm 256]
theorem beN_lt (l : Bytes) : beN l < 256 ^ l.length := by have := beN_from l 0; simpa [beN] using this
theorem beN_take (l : Bytes) (k : Nat) (h : k < l.length) : beN (l.take (k + 1)) = beN (l.take k) * 256 + l[k].toNat := by
  rw [take_snoc l k h, beN_snoc]

theorem bits_and (x y : Nat) (hx : x < 9223372036854775808) (hy : y < 9223372036854775808) : bits .and .i64 (x : Int) (y : Int) = ((x &&& y : Nat) : Int) := by
  unfold bits
  simp only [BitVec.ofInt_natCast, BitVec.toNat_and, BitVec.toNat_ofNat]
  have e : IntKind.i64.bits = 64 := rfl
  rw [e, Nat.mod_eq_of_lt (by omega), Nat.mod_eq_of_lt (by omega)]
  have := @Nat.and_le_left x y
  exact IntWalk.i64_in _ (by omega)
theorem bits_or32 (x y : Nat) (hx : x < 16777216) (hy : y < 256) : bits .or .u32 ((x : Int) * 256) ((y : Int) % 4294967296) = ((x * 256 + y : Nat) : Int) := by
  rw [show ((x : Int) * 256) = ((x * 256 : Nat) : Int) by simp, show ((y : Int) % 4294967296) = (y : Int) by omega]
  unfold bits
  simp only [BitVec.ofInt_natCast, BitVec.toNat_or, BitVec.toNat_ofNat]
  have e : IntKind.u32.bits = 32 := rfl
  rw [e, Nat.mod_eq_of_lt (by omega), Nat.mod_eq_of_lt (by omega)]
  have e2 : x * 256 ||| y = x * 256 + y := by
    have := Nat.two_pow_add_eq_or_of_lt (b := y) (i := 8) (by omega) x
    rw [Nat.mul_comm 256 x] at this
    omega
  rw [e2]
  exact IntWalk.u32_in _ (by omega)

theorem ib (a b : Nat) : ((a : Int) == (b : Int)) = (a == b) := by
  by_cases h : a = b
  · rw [h]; simp
  · rw [i_ne h]; simp [h]
theorem inb (a b : Nat) : ((a : Int) != (b : Int)) = (a != b) := by unfold bne; rw [ib]
theorem ibs (a : Nat) : ((a : Int) == 0) = (a == 0) ∧ ((a : Int) == 1) = (a == 1) ∧ ((a : Int) == 2) = (a == 2) ∧ ((a : Int) == 3) = (a == 3) ∧ ((a : Int) == 4) = (a == 4) ∧ ((a : Int) == 5) = (a == 5) ∧ ((a : Int) == 6) = (a == 6) ∧ ((a : Int) == 7) = (a == 7) ∧ ((a : Int) == 8) = (a == 8) ∧ ((a : Int) == 9) = (a == 9) ∧ ((a : Int) != 0) = (a != 0) := ⟨ib a 0, ib a 1, ib a 2, ib a 3, ib a 4, ib a 5, ib a 6, ib a 7, ib a 8, ib a 9, inb a 0⟩
theorem flg (fl k : Nat) (h : fl < 256) (hk : k < 9223372036854775808) : (bits .and .i64 (fl : Int) (k : Int) != 0) = (fl &&& k != 0) := by rw [bits_and fl k (by omega) hk]; exact inb _ 0
theorem flgs (fl : Nat) (h : fl < 256) : (bits .and .i64 (fl : Int) 1 != 0) = (fl &&& 1 != 0) ∧ (bits .and .i64 (fl : Int) 4 != 0) = (fl &&& 4 != 0) ∧ (bits .and .i64 (fl : Int) 8 != 0) = (fl &&& 8 != 0) ∧ (bits .and .i64 (fl : Int) 32 != 0) = (fl &&& 32 != 0) := ⟨flg fl 1 h (by decide), flg fl 4 h (by decide), flg fl 8 h (by decide), flg fl 32 h (by decide)⟩
theorem flgz (fl : Nat) (h : fl < 256) : (bits .and .i64 (fl : Int) 1 == 0) = (fl &&& 1 == 0) ∧ (bits .and .i64 (fl : Int) 4 == 0) = (fl &&& 4 == 0) ∧ (bits .and .i64 (fl : Int) 8 == 0) = (fl &&& 8 == 0) ∧ (bits .and .i64 (fl : Int) 32 == 0) = (fl &&& 32 == 0) := ⟨by have := congrArg not (flg fl 1 h (by decide)); simpa [bne] using this, by have := congrArg not (flg fl 4 h (by decide)); simpa [bne] using this, by have := congrArg not (flg fl 8 h (by decide)); simpa [bne] using this, by have := congrArg not (flg fl 32 h (by decide)); simpa [bne] using this⟩
theorem flg1 (fl : Nat) (h : fl < 256) : bits .and .i64 (fl : Int) 1 = ((fl % 2 : Nat) : Int) := by
  have e := bits_and fl 1 (by omega) (by decide)
  rw [Nat.and_one_is_mod] at e
  exact e
theorem ret_b {a b : Bool} (h : a = b) : Ending.returned (.bool a) = Ending.returned (.bool b) := by rw [h]

/-! ### a frame -/
structure Fr where
  ty : Nat := 0
  fl : Nat := 0
  st : Nat := 0
  data : Bytes := []
  pad : Nat := 0
  sets : List (Nat × Nat) := []
  code : Nat := 0
  last : Nat := 0
  inc : Nat := 0
  dep : Nat := 0
  wt : Nat := 0
  sole : Bool := false
def Fr.cells (f : Fr) (vs : Value) : Array Value := #[.int .i64 (f.ty : Nat), .int .i64 (f.fl : Nat), .int .i64 (f.st : Nat), S f.data, .int .i64 (f.pad : Nat), vs, .int .i64 (f.code : Nat), .int .i64 (f.last : Nat), .int .i64 (f.inc : Nat), .int .i64 (f.dep : Nat), .int .i64 (f.wt : Nat), .bool f.sole]
def setc (s : Nat × Nat) : List Value := [.int .i64 (s.1 : Nat), .int .i64 (s.2 : Nat)]
def scells (l : List (Nat × Nat)) : List Value := l.flatMap setc
theorem scells_append (a b : List (Nat × Nat)) : scells (a ++ b) = scells a ++ scells b := by simp [scells]
theorem scells_length (l : List (Nat × Nat)) : (scells l).length = l.length * 2 := by
  induction l with
  | nil => rfl
  | cons x l ih => simp [scells, setc] at *; omega
theorem scells_one (l : List (Nat × Nat)) : ∀ u ∈ scells l, u.oneCell' = true := by
  intro u hu
  obtain ⟨s, -, hs⟩ := List.mem_flatMap.1 hu
  simp [setc] at hs
  rcases hs with rfl | rfl <;> rfl

/-- what is wrong with a frame that came: nothing; of the connection; of a stream -/
structure Ft where
  is : Bool := false
  code : Nat := 0
  st : Nat := 0

def misF (ty st : Nat) : Bool := ty == 5 || ((ty == 4 || ty == 6 || ty == 7) && st != 0) || ((ty == 0 || ty == 1 || ty == 2 || ty == 3 || ty == 9) && st == 0)
def aheadF (ty fl : Nat) : Nat := (if fl &&& 8 != 0 then 1 else 0) + (if ty == 1 && fl &&& 32 != 0 then 5 else 0)
def sizeF (ty fl n : Nat) : Bool :=
  if ty == 0 || ty == 1 then decide (n < aheadF ty fl)
  else if ty == 4 then n % 6 != 0 || (fl &&& 1 != 0 && n != 0)
  else if ty == 7 then decide (n < 8)
  else if ty == 2 then n != 5
  else if ty == 3 || ty == 8 then n != 4
  else if ty == 6 then n != 8
  else false
def numF (p : Bytes) (k : Nat) : Nat := beN ((p.drop k).take 4)
def set1 (p : Bytes) (j : Nat) : Nat × Nat := (beN ((p.drop (6 * j)).take 2), numF p (6 * j + 2))
def setsK (p : Bytes) (k : Nat) : List (Nat × Nat) := (List.range k).map (set1 p)
theorem setsK_succ (p : Bytes) (k : Nat) : setsK p (k + 1) = setsK p k ++ [set1 p k] := by simp [setsK, List.range_succ]
theorem setsK_length (p : Bytes) (k : Nat) : (setsK p k).length = k := by simp [setsK]
end Go.Proofs.YtmbakobindjjmaaGreatDoor
