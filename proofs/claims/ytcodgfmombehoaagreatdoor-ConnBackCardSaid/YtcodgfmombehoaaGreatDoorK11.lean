/- Parts of the proof of bk_root: the texts Cnw1 Put1 Put2. -/
import Derived.Lib.AppendStr
import Derived.Test.YtcodgfmombehoaaGreatDoorK10
set_option linter.unusedSimpArgs false
set_option linter.unusedVariables false
set_option linter.unnecessarySimpa false
set_option maxRecDepth 100000
set_option maxHeartbeats 64000000
namespace Go.Proofs.YtcodgfmombehoaaGreatDoor
open Go.RowKit Go.Dr
theorem TblNew_all (w : World) : Calls Tryz.prog 44 #[.int .i64 4096] w fun e w' => e = .returned (.tuple #[Ptr (w.heap.size + 2), .int .i64 0]) ∧ Below w.heap.size w w' ∧ w'.heap.size = w.heap.size + 3 ∧ Tbl0 w' (w.heap.size + 2) := by
 have hmm := @run_makeMap Tryz.prog;go_enter Tryz.func44, Tryz.ntmps44
 go_wp2;go_ret2;refine ⟨rfl, ((((Below.refl _ _).alloc (Nat.le_refl _) _).alloc (by simp) _).alloc (by simp;omega) _), by simp, ⟨?_, ?_, ?_⟩⟩
 ·exact obj_alloc (obj_alloc (obj_new w _ _ rfl) _) _
 ·exact obj_alloc (obj_new _ _ _ (by simp)) _
 ·exact obj_new _ _ _ (by simp)
theorem DecNew_lst (lst : Int) (hl : 0 ≤ lst) (w : World) : Calls Tryz.prog 21 #[.int .i64 4096, .int .i64 lst] w fun e w' => e = .returned (.tuple #[Ptr (w.heap.size + 3), .int .i64 0]) ∧ Below w.heap.size w w' ∧ Tbl0 w' (w.heap.size + 2) ∧ Blk w' (w.heap.size + 3) 127 #[.int .i64 4096, .int .i64 lst, Ptr (w.heap.size + 2), .bool false] := by
 go_enter Tryz.func21, Tryz.ntmps21
 go_wp2_with (go_at_call 44;refine (TblNew_all _).mono ?_;rintro e w3 ⟨rfl, hb3, hs3, hT⟩)
 go_ret2;exact ⟨rfl, hb3.alloc hb3.size _, ⟨obj_alloc hT.m1 _, obj_alloc hT.m2 _, hT.blk.alloc _⟩, obj_new _ _ _ hs3⟩
theorem EncNew_any (w : World) : Calls Tryz.prog 22 #[.int .i64 4096] w fun e w' => e = .returned (.tuple #[Ptr (w.heap.size + 3), .int .i64 0]) ∧ Below w.heap.size w w' ∧ Tbl0 w' (w.heap.size + 2) ∧ Blk w' (w.heap.size + 3) 129 #[.int .i64 4096, .int .i64 4096, .int .i64 4096, Ptr (w.heap.size + 2)] := by
 go_enter Tryz.func22, Tryz.ntmps22
 go_wp2_with (go_at_call 44;refine (TblNew_all _).mono ?_;rintro e w3 ⟨rfl, hb3, hs3, hT⟩)
 go_ret2;exact ⟨rfl, hb3.alloc hb3.size _, ⟨obj_alloc hT.m1 _, obj_alloc hT.m2 _, hT.blk.alloc _⟩, obj_new _ _ _ hs3⟩
theorem WinNew_any (w : World) : Calls Tryz.prog 23 #[.int .i64 65535] w fun e w' => e = .returned (.tuple #[Ptr (w.heap.size + 1), .int .i64 0]) ∧ Below w.heap.size w w' ∧ w'.heap[w.heap.size]? = some (.map #[] 0) ∧ Blk w' (w.heap.size + 1) 132 #[.int .i64 65535, .int .i64 65535, .map (some w.heap.size)] := by
 have hmm := @run_makeMap Tryz.prog;go_enter Tryz.func23, Tryz.ntmps23
 go_wp2;go_ret2;refine ⟨rfl, ((Below.refl _ _).alloc (Nat.le_refl _) _).alloc (by simp) _, obj_alloc (obj_new w _ _ rfl) _, obj_new _ _ _ (by simp)⟩
open Go.RowKit Go.Dr
def beP (n k : Nat) : Bytes := ([n / 16777216, n / 65536, n / 256, n].map UInt8.ofNat).drop (4 - k)
theorem b8_of (n : Nat) : B8 (UInt8.ofNat n) = .int .u8 ((n : Int) % 256) := by simp [B8]
theorem beP_length (n k : Nat) (h : k ≤ 4) : (beP n k).length = k := by simp [beP];omega
theorem beP_b8 (n k : Nat) (hn : n < 4294967296) : (beP n k).map B8 = [.int .u8 ((n : Int) / 16777216), .int .u8 ((n : Int) / 65536 % 256), .int .u8 ((n : Int) / 256 % 256), .int .u8 ((n : Int) % 256)].drop (4 - k) := by
 have h : (n : Int) / 16777216 % 256 = (n : Int) / 16777216 := (by omega);simp only [beP, List.map_drop, List.map_cons, List.map_nil, b8_of];simp [h]
theorem rd_lit4 (w : World) (t : TypeId) (a b c d : Value) (k : Nat) (hk : k ≤ 4) : Rd (w.heap.size + 1) (w.alloc (.cells #[a, b, c, d] t)) 1 (.slice (some ⟨w.heap.size, k, none⟩) (4 - k) (4 - k)) (4 - k) ([a, b, c, d].drop k) := by
 have h := (Rd.lit w t #[a, b, c, d] 1 4 rfl (by decide)).from hk
 simpa using h
theorem rPut2 (n : Nat) (hn : n < 4294967296) (w : World) : Calls Tryz.prog 57 #[.int .u32 (n : Int), .int .i64 2] w fun e w' => ∃ v, e = .returned v ∧ w'.ownsRow w.heap.size 5 1 v 2 ((beP n 2).map B8) ∧ Below w.heap.size w w' := by
 have hS := (rd_lit4 w 5 (.int .u8 ((n : Int) / 16777216)) (.int .u8 ((n : Int) / 65536 % 256)) (.int .u8 ((n : Int) / 256 % 256)) (.int .u8 ((n : Int) % 256)) 2 (by decide)).below ((Below.refl (w.heap.size + 1) _).alloc (by simp) (.cells #[] 5));go_enter Tryz.func57, Tryz.ntmps57
 go_wp2_with (at_builtin;refine wpList_appRd rfl _ _ 39 rfl w.heap.size 5 (.int .u8 0) 1 1 Tryz.underlying39 (by kernel_rfl) rfl (by decide) _ _ _ rfl (own_lit _ (w.heap.size + 1) (by simp) w.heap.size (by simp) _ _) _ _ _ _ rfl hS (by intro u hu;simp at hu;rcases hu with rfl | rfl <;> rfl) (by decide) (by decide) (by simp;omega) ?_;intro a1 c1 w1 hown1 hb1)
 go_ret;refine ⟨_, rfl, ?_, (((Below.refl _ _).alloc (Nat.le_refl _) _).alloc (by simp) _).trans hb1⟩;rw [beP_b8 n 2 hn];exact hown1
theorem rPut3 (n : Nat) (hn : n < 4294967296) (w : World) : Calls Tryz.prog 57 #[.int .u32 (n : Int), .int .i64 3] w fun e w' => ∃ v, e = .returned v ∧ w'.ownsRow w.heap.size 5 1 v 3 ((beP n 3).map B8) ∧ Below w.heap.size w w' := by
 have hS := (rd_lit4 w 5 (.int .u8 ((n : Int) / 16777216)) (.int .u8 ((n : Int) / 65536 % 256)) (.int .u8 ((n : Int) / 256 % 256)) (.int .u8 ((n : Int) % 256)) 1 (by decide)).below ((Below.refl (w.heap.size + 1) _).alloc (by simp) (.cells #[] 5));go_enter Tryz.func57, Tryz.ntmps57
 go_wp2_with (at_builtin;refine wpList_appRd rfl _ _ 39 rfl w.heap.size 5 (.int .u8 0) 1 1 Tryz.underlying39 (by kernel_rfl) rfl (by decide) _ _ _ rfl (own_lit _ (w.heap.size + 1) (by simp) w.heap.size (by simp) _ _) _ _ _ _ rfl hS (by intro u hu;simp at hu;rcases hu with rfl | rfl | rfl <;> rfl) (by decide) (by decide) (by simp;omega) ?_;intro a1 c1 w1 hown1 hb1)
 go_ret;refine ⟨_, rfl, ?_, (((Below.refl _ _).alloc (Nat.le_refl _) _).alloc (by simp) _).trans hb1⟩;rw [beP_b8 n 3 hn];exact hown1
theorem rPut4 (n : Nat) (hn : n < 4294967296) (w : World) : Calls Tryz.prog 57 #[.int .u32 (n : Int), .int .i64 4] w fun e w' => ∃ v, e = .returned v ∧ w'.ownsRow w.heap.size 5 1 v 4 ((beP n 4).map B8) ∧ Below w.heap.size w w' := by
 have hS := (rd_lit4 w 5 (.int .u8 ((n : Int) / 16777216)) (.int .u8 ((n : Int) / 65536 % 256)) (.int .u8 ((n : Int) / 256 % 256)) (.int .u8 ((n : Int) % 256)) 0 (by decide)).below ((Below.refl (w.heap.size + 1) _).alloc (by simp) (.cells #[] 5));go_enter Tryz.func57, Tryz.ntmps57
 go_wp2_with (at_builtin;refine wpList_appRd rfl _ _ 39 rfl w.heap.size 5 (.int .u8 0) 1 1 Tryz.underlying39 (by kernel_rfl) rfl (by decide) _ _ _ rfl (own_lit _ (w.heap.size + 1) (by simp) w.heap.size (by simp) _ _) _ _ _ _ rfl hS (by intro u hu;simp at hu;rcases hu with rfl | rfl | rfl | rfl <;> rfl) (by decide) (by decide) (by simp;omega) ?_;intro a1 c1 w1 hown1 hb1)
 go_ret;refine ⟨_, rfl, ?_, (((Below.refl _ _).alloc (Nat.le_refl _) _).alloc (by simp) _).trans hb1⟩;rw [beP_b8 n 4 hn];exact hown1
theorem rFour (n : Nat) (hn : n < 4294967296) (w : World) : Calls Tryz.prog 58 #[.int .i64 (n : Int)] w fun e w' => ∃ v, e = .returned v ∧ w'.ownsRow w.heap.size 5 1 v 4 ((beP n 4).map B8) ∧ Below w.heap.size w w' := by
 have hc : (n : Int) % 4294967296 = (n : Int) := (by omega);go_enter Tryz.func58, Tryz.ntmps58
 go_wp2_with (go_at_call 57;refine (rPut4 n hn _).mono ?_;rintro e w3 ⟨v, rfl, hown, hb⟩)
 go_ret;exact ⟨_, rfl, hown, hb⟩
open Go.RowKit Go.Dr
theorem strCells_b8 (l : Bytes) : Go.Lib.strCells ⟨l.toArray⟩ = l.map B8 := by
 simp [Go.Lib.strCells]
theorem wpList_appStr {P : Program} {ops : Array Oper} {rest : List Oper} {o : Oper} {a : Act} {Q : Exit → Act → World → Prop} {w : World} (hgd : o.guard = none) (s x : Operand) (t u : TypeId)
  (ho : o.op = .call { callee := .builtin .append, args := #[s, x], argTypes := #[t, u] })
  (base : Nat) (e : TypeId) (ht : P.underlying t = some (.slice e)) (hu : P.underlying u = some .string) (hi : (P.info? e).map (fun i => (i.zero, i.size, i.bytes)) = some (some (.int .u8 0), 1, 1))
  (v : Value) (n : Nat) (xs : List Value) (hs : a.eval s = v) (hown : w.ownsRow base e 1 v n xs) (l : Bytes) (hx : a.eval x = S l)
  (hm : n + l.length ≤ 140737488355328) (hbase : base ≤ w.heap.size)
  (h : ∀ a' c' w', w'.ownsRow base e 1 (.slice a' (n + l.length) c') (n + l.length) (xs ++ l.map B8) → Below base w w' → wpList P ops Q rest (a.put o.dst (.slice a' (n + l.length) c')) w') : wpList P ops Q (o :: rest) a w := by
 obtain ⟨i, hi, hz, hsize, hby⟩ := info_parts hi;refine Go.Lib.wpList_append_own_string _ hgd s x t u ho base e i ht hu hi hz hsize hby v n xs hs hown ⟨l.toArray⟩ hx (by unfold maxLen;show n + l.length ≤ _;omega) hm hbase fun v' w' ho' hg _ => ?_
 rw [strCells_b8] at ho';have ho2 : w'.ownsRow base e 1 v' (n + l.length) (xs ++ l.map B8) := ho';obtain ⟨a', c', rfl⟩ := own_form ho2;exact h a' c' w' ho2 (Bl.grown (Below.refl base w) hown hg hbase (Nat.le_refl _))
theorem b8_one2 (l : Bytes) : ∀ u ∈ l.map B8, u.oneCell' = true := by
 intro u hu;simp only [List.mem_map] at hu;obtain ⟨b, _, rfl⟩ := hu;rfl
theorem Put_of (w : World) (ty fl st : Nat) (hty : ty < 256) (hfl : fl < 256) (hst : st < 2147483648) (d c4 c5 c6 c7 c8 c9 c10 c11 : Value)
  (hMay : ∀ w : World, Calls Tryz.prog 55 #[.agg #[.int .i64 (ty : Int), .int .i64 (fl : Int), .int .i64 (st : Int), d, c4, c5, c6, c7, c8, c9, c10, c11]] w fun e w' => e = .returned (.bool true) ∧ Below w.heap.size w w') (n : Nat) (pl : Bytes) (hpl : pl.length = n) (hn : n ≤ 16777215)
  (hPay : ∀ w : World, Calls Tryz.prog 56 #[.agg #[.int .i64 (ty : Int), .int .i64 (fl : Int), .int .i64 (st : Int), d, c4, c5, c6, c7, c8, c9, c10, c11]] w fun e w' => ∃ v, e = .returned v ∧ w'.ownsRow w.heap.size 5 1 v n (pl.map B8) ∧ Below w.heap.size w w') :
  Calls Tryz.prog 27 #[.agg #[.int .i64 (ty : Int), .int .i64 (fl : Int), .int .i64 (st : Int), d, c4, c5, c6, c7, c8, c9, c10, c11]] w fun e w' => ∃ v, e = .returned (.tuple #[v, .int .i64 0]) ∧ w'.ownsRow w.heap.size 5 1 v (9 + n) ((beP n 3 ++ [UInt8.ofNat ty, UInt8.ofNat fl] ++ beP st 4 ++ pl).map B8) ∧ Below w.heap.size w w' := by
 have hF : Blk (w.alloc (.cells #[.int .i64 (ty : Int), .int .i64 (fl : Int), .int .i64 (st : Int), d, c4, c5, c6, c7, c8, c9, c10, c11] 36)) w.heap.size 36 #[.int .i64 (ty : Int), .int .i64 (fl : Int), .int .i64 (st : Int), d, c4, c5, c6, c7, c8, c9, c10, c11] := Blk.new _ _ _;have hbx : Below w.heap.size w (w.alloc (.cells #[.int .i64 (ty : Int), .int .i64 (fl : Int), .int .i64 (st : Int), d, c4, c5, c6, c7, c8, c9, c10, c11] 36)) := (Below.refl w.heap.size w).alloc (Nat.le_refl _) _;obtain ⟨g0, g1, g2, g3, g4, g5, g6, g7, g8, g9, g10, g11⟩ := hF.c12;go_enter Tryz.func27, Tryz.ntmps27
 have hm1 : (ty : Int) % 256 = (ty : Int) := (by omega);have hm2 : (fl : Int) % 256 = (fl : Int) := (by omega);have hm3 : (n : Int) % 4294967296 = (n : Int) := (by omega);have hm4 : ¬ (16777215 : Int) < (n : Int) := (by omega)
 go_wp2_with first
  | (go_at_call 55;(with_reducible refine (hMay _).mono ?_);rintro e w1 ⟨rfl, hb1⟩;have hbx := hbx.trans (hb1.mono (Nat.le_of_lt hF.lt));have hF := hF.on hb1;have hz1 := hF.lt;clear hb1 g0 g1 g2 g3 g4 g5 g6 g7 g8 g9 g10 g11;(have g0 : w1.cell? ⟨w.heap.size, 0, none⟩ = some (.int .i64 (ty : Int)) := hF.cell 0;have g1 : w1.cell? ⟨w.heap.size, 1, none⟩ = some (.int .i64 (fl : Int)) := hF.cell 1;have g2 : w1.cell? ⟨w.heap.size, 2, none⟩ = some (.int .i64 (st : Int)) := hF.cell 2;have g3 : w1.cell? ⟨w.heap.size, 3, none⟩ = some (d) := hF.cell 3;have g4 : w1.cell? ⟨w.heap.size, 4, none⟩ = some (c4) := hF.cell 4;have g5 : w1.cell? ⟨w.heap.size, 5, none⟩ = some (c5) := hF.cell 5;have g6 : w1.cell? ⟨w.heap.size, 6, none⟩ = some (c6) := hF.cell 6;have g7 : w1.cell? ⟨w.heap.size, 7, none⟩ = some (c7) := hF.cell 7;have g8 : w1.cell? ⟨w.heap.size, 8, none⟩ = some (c8) := hF.cell 8;have g9 : w1.cell? ⟨w.heap.size, 9, none⟩ = some (c9) := hF.cell 9;have g10 : w1.cell? ⟨w.heap.size, 10, none⟩ = some (c10) := hF.cell 10;have g11 : w1.cell? ⟨w.heap.size, 11, none⟩ = some (c11) := hF.cell 11))
  | (go_at_call 56;(with_reducible refine (hPay _).mono ?_);rintro e w2 ⟨vp, rfl, hp, hb2⟩;obtain ⟨ap, cp, rfl⟩ := own_form hp;have hbx := hbx.trans (hb2.mono (Nat.le_of_lt hF.lt));have hF := hF.on hb2;have hz2 := hb2.size;clear g3 g4 g5 g6 g7 g8 g9 g10 g11;clear g0 g1 g2;have g0 : w2.cell? ⟨w.heap.size, 0, none⟩ = some (.int .i64 (ty : Int)) := hF.cell 0;have g1 : w2.cell? ⟨w.heap.size, 1, none⟩ = some (.int .i64 (fl : Int)) := hF.cell 1;have g2 : w2.cell? ⟨w.heap.size, 2, none⟩ = some (.int .i64 (st : Int)) := hF.cell 2)
  | (go_at_call 57;(with_reducible refine (rPut3 n (by omega) _).mono ?_);rintro e w3 ⟨vb, rfl, hv, hb3⟩;obtain ⟨av, cv, rfl⟩ := own_form hv;have hbx := hbx.trans (hb3.mono (Nat.le_of_lt hF.lt));have hF := hF.on hb3;have hz3 := hb3.size;clear g0 g1 g2;have g0 : w3.cell? ⟨w.heap.size, 0, none⟩ = some (.int .i64 (ty : Int)) := hF.cell 0;have g1 : w3.cell? ⟨w.heap.size, 1, none⟩ = some (.int .i64 (fl : Int)) := hF.cell 1;have g2 : w3.cell? ⟨w.heap.size, 2, none⟩ = some (.int .i64 (st : Int)) := hF.cell 2;have hal := (Below.refl w3.heap.size w3).alloc (Nat.le_refl _) (.cells #[.int .u8 (ty : Int), .int .u8 (fl : Int)] 5))
  | (go_at_call 58;(with_reducible refine (rFour st (by omega) _).mono ?_);rintro e w5 ⟨vf, rfl, hv5, hb5⟩;obtain ⟨a5, c5', rfl⟩ := own_form hv5;have hbx := hbx.trans (hb5.mono (Nat.le_of_lt hF.lt));have hF := hF.on hb5;have hz5 := hb5.size;clear g0 g1 g2;have g0 : w5.cell? ⟨w.heap.size, 0, none⟩ = some (.int .i64 (ty : Int)) := hF.cell 0;have g1 : w5.cell? ⟨w.heap.size, 1, none⟩ = some (.int .i64 (fl : Int)) := hF.cell 1;have g2 : w5.cell? ⟨w.heap.size, 2, none⟩ = some (.int .i64 (st : Int)) := hF.cell 2;have hb25 := hb24.trans (hb5.mono (by omega)))
  | (at_builtin;refine wpList_appRd rfl _ _ 39 rfl w2.heap.size 5 (.int .u8 0) 1 1 Tryz.underlying39 (by kernel_rfl) rfl (by decide) _ _ _ rfl (own_below hv hal) _ _ _ _ rfl (Rd.lit w3 _ _ 1 2 rfl (by decide)) (by intro u hu;simp at hu;rcases hu with rfl | rfl <;> rfl) (by decide) (by decide) (by simp;omega) ?_;intro a4 k4 w4 hv4 hb4;have hz4 := hb4.size;have hb24 := hb3.trans ((hal.mono hz3).trans hb4);have hbx := hbx.trans ((hal.mono (by omega)).trans (hb4.mono (by omega)));have hF := (hF.alloc (.cells #[.int .u8 (ty : Int), .int .u8 (fl : Int)] 5)).below hb4 (by omega);rw [World.size_alloc] at hz4;clear g0 g1 g2;have g0 : w4.cell? ⟨w.heap.size, 0, none⟩ = some (.int .i64 (ty : Int)) := hF.cell 0;have g1 : w4.cell? ⟨w.heap.size, 1, none⟩ = some (.int .i64 (fl : Int)) := hF.cell 1;have g2 : w4.cell? ⟨w.heap.size, 2, none⟩ = some (.int .i64 (st : Int)) := hF.cell 2)
  | (at_builtin;refine wpList_appRd rfl _ _ 39 rfl w2.heap.size 5 (.int .u8 0) 1 1 Tryz.underlying39 (by kernel_rfl) rfl (by decide) _ _ _ rfl (own_below hv4 hb5) _ _ _ _ rfl (Rd.own hv5) (b8_one2 _) (by decide) (by decide) (by omega) ?_;intro a6 k6 w6 hv6 hb6;have hb26 := hb25.trans hb6)
  | (at_builtin;refine wpList_appRd rfl _ _ 39 rfl w2.heap.size 5 (.int .u8 0) 1 1 Tryz.underlying39 (by kernel_rfl) rfl (by decide) _ _ _ rfl hv6 _ _ _ _ rfl (Rd.own (own_below hp hb26)) (b8_one2 _) (by unfold maxLen;omega) (by omega) (by have := hb26.size;omega) ?_;intro a7 k7 w7 hv7 hb7)
 go_ret2;refine ⟨_, rfl, ?_, hbx.trans ((hb6.mono (by omega)).trans (hb7.mono (by omega)))⟩;have hv8 := own_base hv7 (base' := w.heap.size) (by omega)
 have e : (beP n 3 ++ [UInt8.ofNat ty, UInt8.ofNat fl] ++ beP st 4 ++ pl).map B8 = (beP n 3).map B8 ++ [.int .u8 (ty : Int), .int .u8 (fl : Int)] ++ (beP st 4).map B8 ++ pl.map B8 := by
  simp only [List.map_append, List.map_cons, List.map_nil, b8_of, hm1, hm2]
 rw [e];exact hv8
end Go.Proofs.YtcodgfmombehoaaGreatDoor
