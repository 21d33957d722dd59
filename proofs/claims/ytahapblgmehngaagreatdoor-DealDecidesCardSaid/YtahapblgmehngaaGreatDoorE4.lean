/- Parts of the proof of DealDecides_holds: the texts Shelf3 Dat1. -/
import Derived.ChangeKeysEq
import Derived.Test.YtahapblgmehngaaGreatDoorProg
import Derived.Test.YtahapblgmehngaaGreatDoorE2
import Derived.Test.YtahapblgmehngaaGreatDoorE3
set_option linter.unusedSimpArgs false
set_option linter.unusedVariables false
set_option linter.unnecessarySimpa false
set_option maxRecDepth 100000
set_option maxHeartbeats 64000000
namespace Go.Proofs
open Go.Shelf
def Tryz.lays103_ren : Go.Shelf.Ren := ⟨fun | 103 => 217 | 210 => 224 | 206 => 162 | n => n, fun | 9 => 9 | 4 => 4 | 24 => 112 | 3 => 3 | n => n, fun | n => n⟩
theorem Tryz.lays103 : Go.Proofs.Lays.n103 Tryz.prog Tryz.lays103_ren := {
 mixed := by kernel_rfl
 f103 := Tryz.func217.trans (congrArg some (by kernel_rfl))
 f206 := Tryz.func162.trans (congrArg some (by kernel_rfl))
 f210 := Tryz.func224.trans (congrArg some (by kernel_rfl))
 t3 := Tryz.underlying3
 a3 := Tryz.isAgg3
 z3 := Tryz.sizeOf3
 v3 := Tryz.zeroValue3
 t4 := Tryz.underlying4
 a4 := Tryz.isAgg4
 z4 := Tryz.sizeOf4
 v4 := Tryz.zeroValue4
 t9 := Tryz.underlying9
 a9 := Tryz.isAgg9
 z9 := Tryz.sizeOf9
 v9 := Tryz.zeroValue9
 t24 := Tryz.underlying112
 a24 := Tryz.isAgg112
 z24 := Tryz.sizeOf112
 v24 := Tryz.zeroValue112 }
open Go.RowKit in
theorem Tryz.strings_CutPrefix (s p : ByteArray) (w : World) :
 Calls Tryz.prog 217 #[.string s, .string p] w fun e w' => e = .returned (.tuple #[.string ⟨(Lib.trimPrefix s.data.toList p.data.toList).toArray⟩, .bool (Lib.hasPrefix s.data.toList p.data.toList)]) ∧ w' = w := Any.strings_CutPrefix Tryz.lays103 s p w
end Go.Proofs
namespace Go.Proofs.YtahapblgmehngaaGreatDoor
open Go.RowKit Go.Dr
theorem run_index_arr {P : Program} (w : World) (t e : TypeId) (n : Nat) (cs : Array Value) (k : IntKind) (m : Nat) (v : Value) (h : P.underlying t = some (.array n e)) (he : P.plainKey e = true) (hce : P.cellsOf e = 1) (hm : m < n) (hv : cs[m]? = some v) : (Instr.index t (.agg cs) (.int k (m : Int))).run P w = .ok v w := by
 have hi : ∃ i, P.info? e = some i := by
  unfold Program.plainKey at he
  cases hu : P.underlying e with
  | none => simp [hu] at he
  | some d => exact info_of_underlying hu
 obtain ⟨i, hi⟩ := hi;simp [Instr.index, asIntOf, run_underlying h, hm, run_sizeOf w hi, hce, run_part_plain w he hv]
theorem leap_a (y : Nat) (h : (y : Int) % 4 = 0) (h2 : (y : Int) % 100 = 0) : ((y : Int) % 400 == 0) = leapY y := by
 have a : y % 4 = 0 := (by omega);have b : y % 100 = 0 := (by omega);unfold leapY;by_cases c : y % 400 = 0
 ·have c' : (y : Int) % 400 = 0 := by omega
  simp [a, c, c']
 ·have c' : ¬ (y : Int) % 400 = 0 := by omega
  simp [a, b, c, c']
theorem leap_b (y : Nat) (h : (y : Int) % 4 = 0) (h2 : ¬ (y : Int) % 100 = 0) : true = leapY y := by
 have a : y % 4 = 0 := (by omega);have b : ¬ y % 100 = 0 := (by omega);simp [leapY, a, b]
theorem leap_c (y : Nat) (h : ¬ (y : Int) % 4 = 0) : false = leapY y := by
 have a : ¬ y % 4 = 0 := (by omega);simp [leapY, a]
theorem leap_any (y : Nat) (w : World) (hy : y ≤ 1099511627776) : Calls Tryz.prog 218 #[.int .i64 y] w fun e w' => e = .returned (.bool (leapY y)) ∧ w = w' := by
 go_enter Tryz.func218, Tryz.ntmps218
 go_wp2
 all_goals
  go_ret
  first
   | exact ⟨ret_bool (leap_a y (by assumption) (by assumption)), rfl⟩
   | exact ⟨ret_bool (leap_b y (by assumption) (by assumption)), rfl⟩
   | exact ⟨ret_bool (leap_c y (by assumption)), rfl⟩
theorem begin_any (y : Nat) (w : World) (h : 1970 ≤ y) (hy : y ≤ 1099511627776) : Calls Tryz.prog 199 #[.int .i64 y] w fun e w' => e = .returned (.int .i64 (begY y : Nat)) ∧ w = w' := by
 have H := Lib.hid (begY_int y h);go_enter Tryz.func199, Tryz.ntmps199
 go_wp2;go_ret;exact ⟨ret_int H.out, rfl⟩
theorem begin_at (y : Nat) (i : Int) (w : World) (hi : i = (y : Int)) (h : 1970 ≤ y) (hy : y ≤ 1099511627776) : Calls Tryz.prog 199 #[.int .i64 i] w fun e w' => e = .returned (.int .i64 (begY y : Nat)) ∧ w = w' := by
 subst hi;exact begin_any y w h hy
theorem mLen_29 (y m : Nat) (h : m = 1) (h2 : leapY y = true) : (29 : Int) = (mLen y m : Nat) := by
 unfold mLen;rw [if_pos ⟨h, h2⟩];rfl
theorem mLen_no (y m : Nat) (h : ¬ (m = 1 ∧ leapY y = true)) : mLen y m = mLens.getD m 0 := by
 unfold mLen;rw [if_neg h]
theorem mCells (m : Nat) (h : m < 12) : (#[.int .i64 31, .int .i64 28, .int .i64 31, .int .i64 30, .int .i64 31, .int .i64 30, .int .i64 31, .int .i64 31, .int .i64 30, .int .i64 31, .int .i64 30, .int .i64 31] : Array Value)[m]? = some (.int .i64 (mLens.getD m 0 : Nat)) := by
 match m, h with
 | 0, _ | 1, _ | 2, _ | 3, _ | 4, _ | 5, _ | 6, _ | 7, _ | 8, _ | 9, _ | 10, _ | 11, _ => rfl
theorem length_any (y m : Nat) (w : World) (hy : y ≤ 1099511627776) (hm : m < 12) : Calls Tryz.prog 205 #[.int .i64 y, .int .i64 m] w fun e w' => e = .returned (.int .i64 (mLen y m : Nat)) ∧ w = w' := by
 have hc := mCells m hm
 have hidx : ∀ w' : World, (Instr.index 230 (.agg #[.int .i64 31, .int .i64 28, .int .i64 31, .int .i64 30, .int .i64 31, .int .i64 30, .int .i64 31, .int .i64 31, .int .i64 30, .int .i64 31, .int .i64 30, .int .i64 31]) (.int .i64 m)).run Tryz.prog w' = .ok (.int .i64 (mLens.getD m 0 : Nat)) w' :=
  fun w' => run_index_arr w' 230 3 12 _ .i64 m _ (by kernel_rfl) (by kernel_rfl) (by kernel_rfl) hm hc
 generalize hL : mLens.getD m 0 = L at *;have HL := Lib.hid hL;have HM : ∀ h : ¬ (m = 1 ∧ leapY y = true), Hid (mLen y m = L) := fun h => by show _ = _;rw [mLen_no y m h, hL]
 clear hL hc;by_cases h1 : m = 1
 ·subst h1
  simp only [show ((1 : Nat) : Int) = 1 from rfl] at hidx ⊢;by_cases hl : leapY y = true
  ·have H := Lib.hid (mLen_29 y 1 rfl hl)
   clear HM hidx;go_enter Tryz.func205, Tryz.ntmps205
   go_wp2_with (go_at_call 218;refine (leap_any y _ hy).mono ?_;rintro e w' ⟨rfl, rfl⟩)
   go_ret;exact ⟨ret_int H.out, rfl⟩
  ·have H := HM (fun h => hl h.2)
   have hl' : leapY y = false := (by simpa using hl)
   clear hl HM;go_enter Tryz.func205, Tryz.ntmps205
   go_wp2_with (go_at_call 218;refine (leap_any y _ hy).mono ?_;rintro e w' ⟨rfl, rfl⟩)
   go_ret;exact ⟨ret_int (by rw [H.out]), rfl⟩
 ·have H := HM (fun h => h1 h.1)
  have g : ((m : Int) == 1) = false := (by simp;omega);clear HM;go_enter Tryz.func205, Tryz.ntmps205
  go_wp2;go_ret;exact ⟨ret_int (by rw [H.out]), rfl⟩
theorem year_any (d : Nat) (w : World) (hd : d ≤ 2932896) : Calls Tryz.prog 177 #[.int .i64 d] w fun e w' => e = .returned (.int .i64 (yearOf d : Nat)) ∧ w = w' := by
 have h0 := begY_low (1970 + d / 366) (by omega);have h0' : begY (1970 + d / 366) ≤ d := (by omega)
 clear h0;go_enter Tryz.func177, Tryz.ntmps177
 go_wp2
 go_loop [3] (fun i => ∃ k : Nat, i = .int .i64 k ∧ 1970 ≤ k ∧ begY k ≤ d) (fun i => 12000 - (intOf i).toNat)
 case atStart => exact ⟨1970 + d / 366, by go_num, by omega, h0'⟩
 case round =>
  obtain ⟨k, rfl, hk, hle⟩ := hrel;have hhi := begY_high k hk;have hk2 : k ≤ 10100 := (by omega);clear hhi;have HL := Lib.hid hle;clear hle h0';by_cases hs : begY (k + 1) ≤ d
  ·have HS := Lib.hid hs
   have c0 := fun w : World => begin_at (k + 1) ((k : Int) + 1) w (by omega) (by omega) (by omega)
   generalize hb : begY (k + 1) = b at *;have HB := Lib.hid hb;have C := Lib.hid c0;clear hb c0;go_wp2_with (go_at_call 199;refine (C.out _).mono ?_;rintro e w' ⟨rfl, rfl⟩)
   go_round
   case rel => exact ⟨k + 1, by go_num, by omega, by rw [HB.out];exact HS.out⟩
   case measure => simp [intOf];omega
  ·have HS := Lib.hid (yearOf_eq d k hk HL.out (by omega))
   have c0 := fun w : World => begin_at (k + 1) ((k : Int) + 1) w (by omega) (by omega) (by omega)
   generalize hb : begY (k + 1) = b at *;have HB := Lib.hid hb;have C := Lib.hid c0;clear hb c0;go_wp2_with (go_at_call 199;refine (C.out _).mono ?_;rintro e w' ⟨rfl, rfl⟩)
   go_ret;exact ⟨ret_int (by rw [← HS.out]), rfl⟩
open Go.RowKit Go.Dr
theorem day_any (y m n : Nat) (w : World) (hy : 1970 ≤ y) (hy2 : y ≤ 20000) (hm : m < 12) (hn : 1 ≤ n) (hn2 : n ≤ 31) : Calls Tryz.prog 206 #[.int .i64 y, .int .i64 m, .int .i64 n] w fun e w' => e = .returned (.int .i64 (dayOf y m n : Nat)) ∧ w = w' := by
 have hB : begY y ≤ 7000000 := (by have := begY_low y hy;omega);have HD : Hid (dayOf y m n = begY y + n - 1 + aheadM y m) := Lib.hid rfl;have c0 := fun w : World => begin_any y w hy (by omega)
 have HA : Hid (∀ k, k ≤ 12 → aheadM y k ≤ 372) := Lib.hid (fun k hk => by have := aheadM_le y k;omega);have HS : Hid (∀ k, aheadM y (k + 1) = aheadM y k + mLen y k) := Lib.hid (fun _ => rfl);generalize hb : begY y = b at *;have C := Lib.hid c0;clear hb c0;go_enter Tryz.func206, Tryz.ntmps206
 go_wp2_with (go_at_call 199;refine (C.out _).mono ?_;rintro e w' ⟨rfl, rfl⟩)
 go_loop [7, 15] (fun s i => ∃ k : Nat, i = .int .i64 k ∧ k ≤ m ∧ s = .int .i64 ((b + n - 1 + aheadM y k : Nat) : Int)) (fun _ i => m - (intOf i).toNat)
 case atStart => exact ⟨0, rfl, Nat.zero_le _, by unfold aheadM;go_num⟩
 case round =>
  obtain ⟨k, rfl, hk, rfl⟩ := hrel;have hA1 := HA.out k (by omega);by_cases hlt : k < m
  ·have hA2 := HA.out (k + 1) (by omega)
   have HN := HS.out k;rw [HN] at hA2;have c1 := fun w : World => length_any y k w (by omega) (by omega)
   generalize mLen y k = L at *;have HN := Lib.hid HN;generalize aheadM y k = a at *;have C1 := Lib.hid c1;clear c1;go_wp2_with (go_at_call 205;refine (C1.out _).mono ?_;rintro e w' ⟨rfl, rfl⟩)
   go_round
   case rel => exact ⟨k + 1, by go_num, by omega, by rw [HN.out];go_num⟩
   case measure => simp [intOf];omega
  ·have hk' : k = m := by omega
   subst hk';generalize aheadM y k = a at *;go_wp2;go_ret;exact ⟨ret_int (by rw [HD.out];omega), rfl⟩
theorem lCells (m : Nat) (h : m < 7) : (#[S [84, 104, 117, 114, 115, 100, 97, 121], S [70, 114, 105, 100, 97, 121], S [83, 97, 116, 117, 114, 100, 97, 121], S [83, 117, 110, 100, 97, 121], S [77, 111, 110, 100, 97, 121], S [84, 117, 101, 115, 100, 97, 121], S [87, 101, 100, 110, 101, 115, 100, 97, 121]] : Array Value)[m]? = some (S (longF m)) := by
 match m, h with
 | 0, _ | 1, _ | 2, _ | 3, _ | 4, _ | 5, _ | 6, _ => rfl
theorem long_any (m : Nat) (w : World) (hm : m < 7) : Calls Tryz.prog 204 #[.int .i64 m] w fun e w' => e = .returned (S (longF m)) ∧ w = w' := by
 have hc := lCells m hm
 have hidx : ∀ w' : World, (Instr.index 229 (.agg #[S [84, 104, 117, 114, 115, 100, 97, 121], S [70, 114, 105, 100, 97, 121], S [83, 97, 116, 117, 114, 100, 97, 121], S [83, 117, 110, 100, 97, 121], S [77, 111, 110, 100, 97, 121], S [84, 117, 101, 115, 100, 97, 121], S [87, 101, 100, 110, 101, 115, 100, 97, 121]]) (.int .i64 m)).run Tryz.prog w' = .ok (S (longF m)) w' :=
  fun w' => run_index_arr w' 229 9 7 _ .i64 m _ (by kernel_rfl) (by kernel_rfl) (by kernel_rfl) hm hc
 generalize longF m = L at *;clear hc;simp only [S] at hidx;go_enter Tryz.func204, Tryz.ntmps204
 go_wp2;go_ret;exact ⟨rfl, rfl⟩
open Go.RowKit Go.Dr
def Pt.cells (p : Pt) : Array Value := #[S p.left, .int .i64 p.week, .int .i64 p.year, .int .i64 p.month, .int .i64 p.day, .int .i64 p.hour, .int .i64 p.min, .int .i64 p.sec, .bool p.bad]
def PtAt (w : World) (b : Nat) (p : Pt) : Prop := Blk w b 200 (Pt.cells p)
theorem PtAt.cell {w : World} {b : Nat} {p : Pt} (h : PtAt w b p) (k : Nat) : w.cell? ⟨b, k, none⟩ = (Pt.cells p)[k]? := Blk.cell h k
theorem PtAt.set {w : World} {b : Nat} {p q : Pt} (h : PtAt w b p) {k : Nat} {v : Value} (he : (Pt.cells p).setIfInBounds k v = Pt.cells q) : PtAt (w.setCell ⟨b, k, none⟩ v) b q := by
 unfold PtAt;rw [← he];exact Blk.set h k v
theorem CutPrefix_at (s p : Bytes) (w : World) : Calls Tryz.prog 217 #[S s, S p] w fun e w' => e = .returned (.tuple #[S (Lib.trimPrefix s p), .bool (Lib.hasPrefix s p)]) ∧ w = w' :=
 (Tryz.strings_CutPrefix ⟨s.toArray⟩ ⟨p.toArray⟩ w).mono fun _ _ ⟨h1, h2⟩ => ⟨h1, h2.symm⟩
theorem word_any (p : Pt) (s : Bytes) (b : Nat) (w : World) (h : PtAt w b p) : Calls Tryz.prog 201 #[.pointer (some ⟨b, 0, none⟩), S s] w fun e w' => e = .returned (.tuple #[]) ∧ PtAt w' b (p.word s) ∧ Below b w w' := by
 have k0 := h.k0;have k8 := h.k8;have f0 : w.frozen? ⟨b, 0, none⟩ = false := Blk.free h 0;have f8 : w.frozen? ⟨b, 8, none⟩ = false := Blk.free h 8;have HP : Hid (∀ u v : Bool, u = Lib.hasPrefix p.left s → v = p.bad → True) := Lib.hid (fun _ _ _ _ => trivial);generalize hb : Lib.hasPrefix p.left s = y at *;have hbad : (p.bad = true) ∨ (p.bad = false) := (by cases p.bad <;> simp);generalize hl : Lib.trimPrefix p.left s = r at *;have HB := Lib.hid hb;have HL := Lib.hid hl;have C : Hid (∀ w : World, Calls Tryz.prog 217 #[S p.left, S s] w fun e w' => e = .returned (.tuple #[S r, .bool y]) ∧ w = w') := Lib.hid (by rw [← hb, ← hl];exact CutPrefix_at p.left s);clear hb hl HP;go_enter Tryz.func201, Tryz.ntmps201
 go_wp2_with (go_at_call 217;refine (C.out _).mono ?_;rintro e w' ⟨rfl, rfl⟩)
 ·go_end0
  exact ⟨rfl, (h.set (q := { p with left := r }) rfl).set (by simp [Pt.cells, Pt.word, HL.out, *]), ((Below.refl b w).setCell (Nat.le_refl _) _).setCell (Nat.le_refl _) _⟩
 ·go_end0
  exact ⟨rfl, (h.set (q := { p with left := r }) rfl).set (by simp [Pt.cells, Pt.word, HL.out, HB.out, *]), ((Below.refl b w).setCell (Nat.le_refl _) _).setCell (Nat.le_refl _) _⟩
theorem take_all_succ {α : Type} (p : α → Bool) (l : List α) (k : Nat) (h : k < l.length) (h1 : (l.take k).all p = true) (h2 : p l[k] = true) : (l.take (k + 1)).all p = true := by
 rw [take_snoc l k h, List.all_append, h1];simp [h2]
theorem decN_snoc (l : Bytes) (k : Nat) (h : k < l.length) : decN (l.take (k + 1)) = 10 * decN (l.take k) + (l[k].toNat - 48) := by
 rw [take_snoc l k h];simp only [decN, List.foldl_append, List.foldl_cons, List.foldl_nil]
theorem decN_lt (l : Bytes) (h : l.all isDig = true) : decN l < 10 ^ l.length := by
 have key : ∀ (l : Bytes) (v n : Nat), l.all isDig = true → v < 10 ^ n → l.foldl (fun v c => 10 * v + (c.toNat - 48)) v < 10 ^ (n + l.length) := by
  intro l
  induction l with
  | nil => intro v n _ hv;simpa using hv
  | cons c l ih =>
   intro v n ha hv;simp only [List.all_cons, Bool.and_eq_true, isDig, decide_eq_true_iff] at ha;have := ih (10 * v + (c.toNat - 48)) (n + 1) ha.2 (by rw [Nat.pow_succ];omega)
   simpa [List.foldl_cons, Nat.add_assoc, Nat.add_comm 1] using this
 have := key l 0 0 h (by simp)
 simpa [decN] using this
theorem digOk_no1 (p : Pt) (n : Nat) (h : p.left.length < n) : digOk p n = false := by
 simp [digOk];omega
theorem digOk_no2 (p : Pt) (n k : Nat) (hk : k < n) (hl : k < p.left.length) (h : isDig p.left[k] = false) : digOk p n = false := by
 unfold digOk
 have : (p.left.take n).all isDig = false := by
  rw [List.all_eq_false];exact ⟨p.left[k], by rw [List.mem_take_iff_getElem];exact ⟨k, by omega, rfl⟩, by simp [h]⟩
 simp [this]
theorem isDig_yes (c : UInt8) (h : isDig c = true) : 48 ≤ c.toNat ∧ c.toNat ≤ 57 := by simpa [isDig] using h
theorem isDig_no (c : UInt8) (h : isDig c = false) : ¬ (48 ≤ c.toNat ∧ c.toNat ≤ 57) := by simpa [isDig] using h
theorem dig_bad (p : Pt) (n : Nat) (h : digOk p n = false) : p.dig n = { p with bad := true } ∧ p.digV n = 0 := by
 unfold Pt.dig Pt.digV;simp [h]
theorem dig_good (p : Pt) (n : Nat) (hn : n ≤ p.left.length) (h : (p.left.take n).all isDig = true) : p.dig n = { p with left := p.left.drop n } ∧ p.digV n = decN (p.left.take n) := by
 unfold Pt.dig Pt.digV;simp [digOk, hn, h]
theorem digits_any (p : Pt) (n b : Nat) (w : World) (h : PtAt w b p) (hn : n ≤ 4) (hl : p.left.length ≤ 1099511627776) : Calls Tryz.prog 202 #[.pointer (some ⟨b, 0, none⟩), .int .i64 n] w fun e w' => e = .returned (.int .i64 (p.digV n : Nat)) ∧ PtAt w' b (p.dig n) ∧ Below b w w' := by
 have k0 := h.k0;have k8 := h.k8;have f0 : w.frozen? ⟨b, 0, none⟩ = false := Blk.free h 0;have f8 : w.frozen? ⟨b, 8, none⟩ = false := Blk.free h 8;by_cases hshort : p.left.length < n
 ·have HD := Lib.hid (dig_bad p n (digOk_no1 p n hshort))
  go_enter Tryz.func202, Tryz.ntmps202
  go_wp2;go_ret;exact ⟨by rw [HD.out.2];rfl, by rw [HD.out.1];exact h.set rfl, (Below.refl b w).setCell (Nat.le_refl _) _⟩
 ·go_enter Tryz.func202, Tryz.ntmps202
  go_wp2
  go_loop [5, 6, 7, 19] (fun v u x i => ∃ k : Nat, i = .int .i64 k ∧ k ≤ n ∧ v = .int .i64 (decN (p.left.take k) : Nat) ∧ Hid ((p.left.take k).all isDig = true)) (fun _ _ _ i => n - (intOf i).toNat)
  case atStart => exact ⟨0, rfl, Nat.zero_le _, rfl, rfl⟩
  case round =>
   obtain ⟨k, rfl, hk, rfl, HN⟩ := hrel
   have hlt2 : decN (p.left.take k) < 10000 := by
    have := decN_lt _ HN.out
    have e : (p.left.take k).length = k := (by rw [List.length_take];omega);rw [e] at this;have := Nat.pow_le_pow_right (show 0 < 10 by omega) (show k ≤ 4 by omega)
    omega
   by_cases hlt : k < n
   ·have hkl : k < p.left.length := by omega
    by_cases hs : isDig p.left[k] = true
    ·have HY := Lib.hid (take_all_succ isDig p.left k hkl HN.out hs)
     have HS := Lib.hid (decN_snoc p.left k hkl);have hd := isDig_yes _ hs;clear hs;generalize decN (p.left.take k) = v at *;go_wp2;go_round
     case rel => exact ⟨k + 1, by go_num, by omega, by rw [HS.out];go_num, HY⟩
     case measure => simp [intOf];omega
    ·have hs' : isDig p.left[k] = false := by simpa using hs
     have HD := Lib.hid (dig_bad p n (digOk_no2 p n k hlt hkl hs'));have hd := isDig_no _ hs';clear hs hs';generalize decN (p.left.take k) = v at *;go_wp2
     all_goals
      go_ret;exact ⟨by rw [HD.out.2];rfl, by rw [HD.out.1];exact h.set rfl, (Below.refl b w).setCell (Nat.le_refl _) _⟩
   ·have hk' : k = n := by omega
    subst hk';have HD := Lib.hid (dig_good p k (by omega) HN.out);generalize decN (p.left.take k) = v at *;go_wp2;go_ret;exact ⟨by rw [HD.out.2];rfl, by rw [HD.out.1];exact h.set rfl, (Below.refl b w).setCell (Nat.le_refl _) _⟩
theorem tab_get (tab : List Bytes) (ht : ∀ t ∈ tab, t.length = 3) (k : Nat) (hk : k < tab.length) : ((tab.flatten.drop (3 * k)).take 3) = tab[k] := by
 induction tab generalizing k with
 | nil => simp at hk
 | cons a tab ih =>
  have ha := ht a (by simp)
  match k with
  | 0 => simp [List.take_append, ha, List.take_of_length_le (show a.length ≤ 3 by omega)]
  | k + 1 =>
   have := ih (fun t h => ht t (by simp [h])) k (by simpa using hk)
   rw [show 3 * (k + 1) = a.length + 3 * k by omega, List.flatten_cons, List.drop_append, List.drop_eq_nil_of_le (show a.length ≤ a.length + 3 * k by omega)];simpa using this
theorem tab_length (tab : List Bytes) (ht : ∀ t ∈ tab, t.length = 3) : tab.flatten.length = 3 * tab.length := by
 induction tab with
 | nil => rfl
 | cons a tab ih =>
  have ha := ht a (by simp);have := ih (fun t h => ht t (by simp [h]))
  simp [List.flatten_cons, ha] at this ⊢
  omega
theorem find_at (tab : List Bytes) (x : Bytes) (k : Nat) (hk : k < tab.length) (h : tab[k] = x) (hno : ∀ j (hj : j < k), tab[j]'(by omega) ≠ x) : tab.findIdx (fun t => t == x) = k := by
 rw [List.findIdx_eq hk];exact ⟨by simp [h], fun j hj => by simpa using hno j hj⟩
theorem find_none (tab : List Bytes) (x : Bytes) (hno : ∀ j (hj : j < tab.length), tab[j] ≠ x) : tab.findIdx (fun t => t == x) = tab.length := by
 rw [List.findIdx_eq_length];intro t ht;obtain ⟨j, hj, rfl⟩ := List.getElem_of_mem ht;simpa using hno j hj
theorem nam_good (p : Pt) (tab : List Bytes) (k : Nat) (h3 : 3 ≤ p.left.length) (hk : k < tab.length) (h : tab.findIdx (fun t => t == p.left.take 3) = k) : p.nam tab = { p with left := p.left.drop 3 } ∧ p.namV tab = k := by
 unfold Pt.nam Pt.namV nameOk;simp [h, hk, h3]
theorem nam_bad (p : Pt) (tab : List Bytes) (h : p.left.length < 3 ∨ tab.findIdx (fun t => t == p.left.take 3) = tab.length) : p.nam tab = { p with bad := true } ∧ p.namV tab = 0 := by
 have : nameOk p tab = false := by
  unfold nameOk
  rcases h with h | h
  ·simp;omega
  ·simp [h]
 unfold Pt.nam Pt.namV;simp [this]
theorem name_any (p : Pt) (tab : List Bytes) (b : Nat) (w : World) (h : PtAt w b p) (ht : ∀ t ∈ tab, t.length = 3) (hn : tab.length ≤ 12) (hl : p.left.length ≤ 1099511627776) : Calls Tryz.prog 200 #[.pointer (some ⟨b, 0, none⟩), S tab.flatten] w fun e w' => e = .returned (.int .i64 (p.namV tab : Nat)) ∧ PtAt w' b (p.nam tab) ∧ Below b w w' := by
 have k0 := h.k0;have k8 := h.k8;have f0 : w.frozen? ⟨b, 0, none⟩ = false := Blk.free h 0;have f8 : w.frozen? ⟨b, 8, none⟩ = false := Blk.free h 8;have hlen := tab_length tab ht;have HG := Lib.hid (tab_get tab ht);clear ht;by_cases hshort : p.left.length < 3
 ·have HD := Lib.hid (nam_bad p tab (.inl hshort))
  generalize tab.flatten = all at *;go_enter Tryz.func200, Tryz.ntmps200
  go_wp2;go_ret;exact ⟨by rw [HD.out.2];rfl, by rw [HD.out.1];exact h.set rfl, (Below.refl b w).setCell (Nat.le_refl _) _⟩
 ·generalize tab.flatten = all at *
  go_enter Tryz.func200, Tryz.ntmps200
  go_wp2
  go_loopw [5] (fun i wr => ∃ k : Nat, i = .int .i64 ((3 * k : Nat) : Int) ∧ k ≤ tab.length ∧ Hid (∀ j (hj : j < k) (hj2 : j < tab.length), tab[j] ≠ p.left.take 3) ∧ PtAt wr b p ∧ Below b w wr) (fun i _ => all.length - (intOf i).toNat)
  case atStart => exact ⟨0, rfl, Nat.zero_le _, Lib.hid (fun j hj => by omega), h, Below.refl _ _⟩
  case round =>
   obtain ⟨k, rfl, hk, HN, hp, hbw⟩ := hrel;have k0 := hp.k0;have k8 := hp.k8;have f0 : wr.frozen? ⟨b, 0, none⟩ = false := Blk.free hp 0;have f8 : wr.frozen? ⟨b, 8, none⟩ = false := Blk.free hp 8;have hd : ∀ n, (wr.drewN n).cell? ⟨b, 0, none⟩ = some (S p.left) := fun n => (Blk.drewN hp n).cell 0
   have fd : ∀ n, (wr.drewN n).frozen? ⟨b, 0, none⟩ = false := fun n => Blk.free (Blk.drewN hp n) 0
   by_cases hlt : k < tab.length
   ·have hg := HG.out k hlt
    have hg2 : List.drop (3 * k) (List.take (3 * k + 3) all) = tab[k] := (by rw [List.drop_take, ← hg];congr 1;omega);clear hg;by_cases hs : tab[k] = p.left.take 3
    ·have HD := Lib.hid (nam_good p tab k (by omega) hlt (find_at tab _ k hlt hs (fun j hj => HN.out j hj (by omega))))
     have hE : (List.drop (3 * k) (List.take (3 * k + 3) all) == List.take 3 p.left) = true := (by rw [hg2, hs];simp);clear hg2 hs;go_wp2;go_quiet (fail)
     go_wp2;go_ret;exact ⟨by rw [HD.out.2];simp, by rw [HD.out.1];exact PtAt.set (Blk.drewN hp _) rfl, (below_drewN hbw _).setCell (Nat.le_refl _) _⟩
    ·have HY := Lib.hid (show ∀ j (hj : j < k + 1) (hj2 : j < tab.length), tab[j] ≠ p.left.take 3 from fun j hj hj2 => by
      by_cases e : j = k
      ·subst e;exact hs
      ·exact HN.out j (by omega) hj2)
     have hE : (List.drop (3 * k) (List.take (3 * k + 3) all) == List.take 3 p.left) = false := (by rw [hg2];simpa using hs);clear hg2 hs;go_wp2;go_quiet (fail)
     go_wp2;go_round
     case rel => exact ⟨k + 1, by go_num, by omega, HY, Blk.drewN hp _, below_drewN hbw _⟩
     case measure => simp [intOf];omega
   ·have hk' : k = tab.length := by omega
    subst hk';have HD := Lib.hid (nam_bad p tab (.inr (find_none tab _ (fun j hj => HN.out j hj hj))));clear hd fd;go_wp2;go_ret;exact ⟨by rw [HD.out.2];rfl, by rw [HD.out.1];exact hp.set rfl, hbw.setCell (Nat.le_refl _) _⟩
open Go.RowKit Go.Dr
def Pt.Sm (p : Pt) : Prop := p.left.length ≤ 1099511627776
theorem Pt.Sm.word {p : Pt} (h : Pt.Sm p) (s : Bytes) : Pt.Sm (p.word s) := by
 unfold Pt.Sm at *;unfold Pt.word Lib.trimPrefix
 dsimp only
 split
 ·rw [List.length_drop];omega
 ·exact h
theorem Pt.Sm.dig {p : Pt} (h : Pt.Sm p) (n : Nat) : Pt.Sm (p.dig n) := by
 unfold Pt.Sm at *;unfold Pt.dig
 split
 ·show (p.left.drop n).length ≤ _;rw [List.length_drop];omega
 ·exact h
theorem Pt.Sm.nam {p : Pt} (h : Pt.Sm p) (t : List Bytes) : Pt.Sm (p.nam t) := by
 unfold Pt.Sm at *;unfold Pt.nam
 split
 ·show (p.left.drop 3).length ≤ _;rw [List.length_drop];omega
 ·exact h
theorem Pt.Sm.aHour {p : Pt} (h : Pt.Sm p) : Pt.Sm (p.aHour) := by
 show (p.dig 2).left.length ≤ 1099511627776
 exact h.dig 2
theorem Pt.Sm.aMin {p : Pt} (h : Pt.Sm p) : Pt.Sm (p.aMin) := by
 show (p.dig 2).left.length ≤ 1099511627776
 exact h.dig 2
theorem Pt.Sm.aSec {p : Pt} (h : Pt.Sm p) : Pt.Sm (p.aSec) := by
 show (p.dig 2).left.length ≤ 1099511627776
 exact h.dig 2
theorem Pt.Sm.aYear {p : Pt} (h : Pt.Sm p) : Pt.Sm (p.aYear) := by
 show (p.dig 4).left.length ≤ 1099511627776
 exact h.dig 4
theorem Pt.Sm.aDay {p : Pt} (h : Pt.Sm p) (n : Nat) : Pt.Sm (p.aDay n) := by
 show (p.dig n).left.length ≤ 1099511627776
 exact h.dig n
theorem Pt.Sm.aWeek {p : Pt} (h : Pt.Sm p) : Pt.Sm (p.aWeek) := by
 show (p.nam dayTab).left.length ≤ 1099511627776
 exact h.nam dayTab
theorem Pt.Sm.aMonth {p : Pt} (h : Pt.Sm p) : Pt.Sm (p.aMonth) := by
 show (p.nam monTab).left.length ≤ 1099511627776
 exact h.nam monTab
theorem Pt.Sm.clock {p : Pt} (h : Pt.Sm p) : Pt.Sm p.clock := by
 unfold Pt.clock;exact (((h.aHour.word [58]).aMin).word [58]).aSec
theorem nameDay_at (p : Pt) (b : Nat) (w : World) (h : PtAt w b p) (hl : Pt.Sm p) : Calls Tryz.prog 200 #[.pointer (some ⟨b, 0, none⟩), S [84, 104, 117, 70, 114, 105, 83, 97, 116, 83, 117, 110, 77, 111, 110, 84, 117, 101, 87, 101, 100]] w fun e w' => e = .returned (.int .i64 (p.namV dayTab : Nat)) ∧ PtAt w' b (p.nam dayTab) ∧ Below b w w' :=
 name_any p dayTab b w h (by decide) (by decide) hl
theorem nameMon_at (p : Pt) (b : Nat) (w : World) (h : PtAt w b p) (hl : Pt.Sm p) : Calls Tryz.prog 200 #[.pointer (some ⟨b, 0, none⟩), S [74, 97, 110, 70, 101, 98, 77, 97, 114, 65, 112, 114, 77, 97, 121, 74, 117, 110, 74, 117, 108, 65, 117, 103, 83, 101, 112, 79, 99, 116, 78, 111, 118, 68, 101, 99]] w fun e w' => e = .returned (.int .i64 (p.namV monTab : Nat)) ∧ PtAt w' b (p.nam monTab) ∧ Below b w w' :=
 name_any p monTab b w h (by decide) (by decide) hl
theorem clock_any (p : Pt) (b : Nat) (w : World) (h : PtAt w b p) (hs : Pt.Sm p) : Calls Tryz.prog 203 #[.pointer (some ⟨b, 0, none⟩)] w fun e w' => e = .returned (.tuple #[]) ∧ PtAt w' b p.clock ∧ Below b w w' := by
 go_enter Tryz.func203, Tryz.ntmps203
 go_wp2_with fail;refine (digits_any (p) 2 b _ h (by decide) hs).mono ?_;rintro e w1 ⟨rfl, h1, b1⟩;have f1 : w1.frozen? ⟨b, 5, none⟩ = false := Blk.free h1 5;have k1 : w1.cell? ⟨b, 5, none⟩ = some (.int .i64 (((Pt.dig (p) 2).hour) : Nat)) := h1.cell 5;have s1 : Pt.Sm (Pt.aHour (p)) := Pt.Sm.aHour hs;go_wp2_with fail;refine (word_any (Pt.aHour (p)) [58] b _ (h1.set (q := Pt.aHour (p)) (by simp [Pt.cells, Pt.aWeek, Pt.aMonth, Pt.aDay, Pt.aYear, Pt.aHour, Pt.aMin, Pt.aSec]))).mono ?_;rintro e w2 ⟨rfl, h2, b2⟩;have s2 : Pt.Sm (Pt.word (Pt.aHour (p)) [58]) := Pt.Sm.word s1 [58];go_wp2_with fail;refine (digits_any (Pt.word (Pt.aHour (p)) [58]) 2 b _ h2 (by decide) s2).mono ?_;rintro e w3 ⟨rfl, h3, b3⟩;have f3 : w3.frozen? ⟨b, 6, none⟩ = false := Blk.free h3 6;have k3 : w3.cell? ⟨b, 6, none⟩ = some (.int .i64 (((Pt.dig (Pt.word (Pt.aHour (p)) [58]) 2).min) : Nat)) := h3.cell 6;have s3 : Pt.Sm (Pt.aMin (Pt.word (Pt.aHour (p)) [58])) := Pt.Sm.aMin s2;go_wp2_with fail;refine (word_any (Pt.aMin (Pt.word (Pt.aHour (p)) [58])) [58] b _ (h3.set (q := Pt.aMin (Pt.word (Pt.aHour (p)) [58])) (by simp [Pt.cells, Pt.aWeek, Pt.aMonth, Pt.aDay, Pt.aYear, Pt.aHour, Pt.aMin, Pt.aSec]))).mono ?_;rintro e w4 ⟨rfl, h4, b4⟩;have s4 : Pt.Sm (Pt.word (Pt.aMin (Pt.word (Pt.aHour (p)) [58])) [58]) := Pt.Sm.word s3 [58];go_wp2_with fail;refine (digits_any (Pt.word (Pt.aMin (Pt.word (Pt.aHour (p)) [58])) [58]) 2 b _ h4 (by decide) s4).mono ?_;rintro e w5 ⟨rfl, h5, b5⟩;have f5 : w5.frozen? ⟨b, 7, none⟩ = false := Blk.free h5 7;have k5 : w5.cell? ⟨b, 7, none⟩ = some (.int .i64 (((Pt.dig (Pt.word (Pt.aMin (Pt.word (Pt.aHour (p)) [58])) [58]) 2).sec) : Nat)) := h5.cell 7;have s5 : Pt.Sm (Pt.aSec (Pt.word (Pt.aMin (Pt.word (Pt.aHour (p)) [58])) [58])) := Pt.Sm.aSec s4;go_wp2;go_end0
 exact ⟨rfl, (h5.set (q := Pt.aSec (Pt.word (Pt.aMin (Pt.word (Pt.aHour (p)) [58])) [58])) (by simp [Pt.cells, Pt.aWeek, Pt.aMonth, Pt.aDay, Pt.aYear, Pt.aHour, Pt.aMin, Pt.aSec])), (((((((b1.setCell (Nat.le_refl _) _).trans b2).trans b3).setCell (Nat.le_refl _) _).trans b4).trans b5).setCell (Nat.le_refl _) _)⟩
theorem own_any (p : Pt) (now : Int) (b : Nat) (w : World) (h : PtAt w b p) (hs : Pt.Sm p) : Calls Tryz.prog 178 #[.pointer (some ⟨b, 0, none⟩), .int .i64 now] w fun e w' => e = .returned (.tuple #[]) ∧ PtAt w' b p.own ∧ Below b w w' := by
 go_enter Tryz.func178, Tryz.ntmps178
 go_wp2_with fail;refine (nameDay_at (p) b _ h hs).mono ?_;rintro e w1 ⟨rfl, h1, b1⟩;have f1 : w1.frozen? ⟨b, 1, none⟩ = false := Blk.free h1 1;have k1 : w1.cell? ⟨b, 1, none⟩ = some (.int .i64 (((Pt.nam (p) dayTab).week) : Nat)) := h1.cell 1;have s1 : Pt.Sm (Pt.aWeek (p)) := Pt.Sm.aWeek hs;go_wp2_with fail;refine (word_any (Pt.aWeek (p)) [44, 32] b _ (h1.set (q := Pt.aWeek (p)) (by simp [Pt.cells, Pt.aWeek, Pt.aMonth, Pt.aDay, Pt.aYear, Pt.aHour, Pt.aMin, Pt.aSec]))).mono ?_;rintro e w2 ⟨rfl, h2, b2⟩;have s2 : Pt.Sm (Pt.word (Pt.aWeek (p)) [44, 32]) := Pt.Sm.word s1 [44, 32];go_wp2_with fail;refine (digits_any (Pt.word (Pt.aWeek (p)) [44, 32]) 2 b _ h2 (by decide) s2).mono ?_;rintro e w3 ⟨rfl, h3, b3⟩;have f3 : w3.frozen? ⟨b, 4, none⟩ = false := Blk.free h3 4;have k3 : w3.cell? ⟨b, 4, none⟩ = some (.int .i64 (((Pt.dig (Pt.word (Pt.aWeek (p)) [44, 32]) 2).day) : Nat)) := h3.cell 4;have s3 : Pt.Sm (Pt.aDay (Pt.word (Pt.aWeek (p)) [44, 32]) 2) := Pt.Sm.aDay s2  2;go_wp2_with fail;refine (word_any (Pt.aDay (Pt.word (Pt.aWeek (p)) [44, 32]) 2) [32] b _ (h3.set (q := Pt.aDay (Pt.word (Pt.aWeek (p)) [44, 32]) 2) (by simp [Pt.cells, Pt.aWeek, Pt.aMonth, Pt.aDay, Pt.aYear, Pt.aHour, Pt.aMin, Pt.aSec]))).mono ?_;rintro e w4 ⟨rfl, h4, b4⟩;have s4 : Pt.Sm (Pt.word (Pt.aDay (Pt.word (Pt.aWeek (p)) [44, 32]) 2) [32]) := Pt.Sm.word s3 [32];go_wp2_with fail;refine (nameMon_at (Pt.word (Pt.aDay (Pt.word (Pt.aWeek (p)) [44, 32]) 2) [32]) b _ h4 s4).mono ?_;rintro e w5 ⟨rfl, h5, b5⟩;have f5 : w5.frozen? ⟨b, 3, none⟩ = false := Blk.free h5 3;have k5 : w5.cell? ⟨b, 3, none⟩ = some (.int .i64 (((Pt.nam (Pt.word (Pt.aDay (Pt.word (Pt.aWeek (p)) [44, 32]) 2) [32]) monTab).month) : Nat)) := h5.cell 3;have s5 : Pt.Sm (Pt.aMonth (Pt.word (Pt.aDay (Pt.word (Pt.aWeek (p)) [44, 32]) 2) [32])) := Pt.Sm.aMonth s4;go_wp2_with fail;refine (word_any (Pt.aMonth (Pt.word (Pt.aDay (Pt.word (Pt.aWeek (p)) [44, 32]) 2) [32])) [32] b _ (h5.set (q := Pt.aMonth (Pt.word (Pt.aDay (Pt.word (Pt.aWeek (p)) [44, 32]) 2) [32])) (by simp [Pt.cells, Pt.aWeek, Pt.aMonth, Pt.aDay, Pt.aYear, Pt.aHour, Pt.aMin, Pt.aSec]))).mono ?_;rintro e w6 ⟨rfl, h6, b6⟩;have s6 : Pt.Sm (Pt.word (Pt.aMonth (Pt.word (Pt.aDay (Pt.word (Pt.aWeek (p)) [44, 32]) 2) [32])) [32]) := Pt.Sm.word s5 [32];go_wp2_with fail;refine (digits_any (Pt.word (Pt.aMonth (Pt.word (Pt.aDay (Pt.word (Pt.aWeek (p)) [44, 32]) 2) [32])) [32]) 4 b _ h6 (by decide) s6).mono ?_;rintro e w7 ⟨rfl, h7, b7⟩;have f7 : w7.frozen? ⟨b, 2, none⟩ = false := Blk.free h7 2;have k7 : w7.cell? ⟨b, 2, none⟩ = some (.int .i64 (((Pt.dig (Pt.word (Pt.aMonth (Pt.word (Pt.aDay (Pt.word (Pt.aWeek (p)) [44, 32]) 2) [32])) [32]) 4).year) : Nat)) := h7.cell 2;have s7 : Pt.Sm (Pt.aYear (Pt.word (Pt.aMonth (Pt.word (Pt.aDay (Pt.word (Pt.aWeek (p)) [44, 32]) 2) [32])) [32])) := Pt.Sm.aYear s6;go_wp2_with fail;refine (word_any (Pt.aYear (Pt.word (Pt.aMonth (Pt.word (Pt.aDay (Pt.word (Pt.aWeek (p)) [44, 32]) 2) [32])) [32])) [32] b _ (h7.set (q := Pt.aYear (Pt.word (Pt.aMonth (Pt.word (Pt.aDay (Pt.word (Pt.aWeek (p)) [44, 32]) 2) [32])) [32])) (by simp [Pt.cells, Pt.aWeek, Pt.aMonth, Pt.aDay, Pt.aYear, Pt.aHour, Pt.aMin, Pt.aSec]))).mono ?_
 rintro e w8 ⟨rfl, h8, b8⟩;have s8 : Pt.Sm (Pt.word (Pt.aYear (Pt.word (Pt.aMonth (Pt.word (Pt.aDay (Pt.word (Pt.aWeek (p)) [44, 32]) 2) [32])) [32])) [32]) := Pt.Sm.word s7 [32];go_wp2_with fail;refine (clock_any (Pt.word (Pt.aYear (Pt.word (Pt.aMonth (Pt.word (Pt.aDay (Pt.word (Pt.aWeek (p)) [44, 32]) 2) [32])) [32])) [32]) b _ h8 s8).mono ?_;rintro e w9 ⟨rfl, h9, b9⟩;have s9 : Pt.Sm (Pt.clock (Pt.word (Pt.aYear (Pt.word (Pt.aMonth (Pt.word (Pt.aDay (Pt.word (Pt.aWeek (p)) [44, 32]) 2) [32])) [32])) [32])) := Pt.Sm.clock s8;go_wp2_with fail;refine (word_any (Pt.clock (Pt.word (Pt.aYear (Pt.word (Pt.aMonth (Pt.word (Pt.aDay (Pt.word (Pt.aWeek (p)) [44, 32]) 2) [32])) [32])) [32])) [32, 71, 77, 84] b _ h9).mono ?_;rintro e w10 ⟨rfl, h10, b10⟩;have s10 : Pt.Sm (Pt.word (Pt.clock (Pt.word (Pt.aYear (Pt.word (Pt.aMonth (Pt.word (Pt.aDay (Pt.word (Pt.aWeek (p)) [44, 32]) 2) [32])) [32])) [32])) [32, 71, 77, 84]) := Pt.Sm.word s9 [32, 71, 77, 84];go_wp2;go_end0
 exact ⟨rfl, h10, (((((((((((((b1.setCell (Nat.le_refl _) _).trans b2).trans b3).setCell (Nat.le_refl _) _).trans b4).trans b5).setCell (Nat.le_refl _) _).trans b6).trans b7).setCell (Nat.le_refl _) _).trans b8).trans b9).trans b10)⟩
end Go.Proofs.YtahapblgmehngaaGreatDoor
