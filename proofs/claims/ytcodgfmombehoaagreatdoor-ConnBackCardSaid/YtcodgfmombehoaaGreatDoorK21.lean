/- Parts of the proof of bk_root: the texts Tkp Fpt3. -/
import Derived.Test.YtcodgfmombehoaaGreatDoorK20
set_option linter.unusedSimpArgs false
set_option linter.unusedVariables false
set_option linter.unnecessarySimpa false
set_option maxRecDepth 100000
set_option maxHeartbeats 64000000
namespace Go.Proofs.YtcodgfmombehoaaGreatDoor
open Go.RowKit Go.Dr
def frB (ty fl st : Nat) (pl : Bytes) : Bytes := beP pl.length 3 ++ [UInt8.ofNat ty, UInt8.ofNat fl] ++ beP st 4 ++ pl
theorem u8_nat (n : Nat) : (UInt8.ofNat n).toNat = n % 256 := by simp
theorem beN_beP3 (n : Nat) (h : n < 16777216) : beN (beP n 3) = n := by
 simp [beN, beP]
 omega
theorem beN_beP4 (n : Nat) (h : n < 4294967296) : beN (beP n 4) = n := by
 simp [beN, beP]
 omega
theorem frB_length (ty fl st : Nat) (pl : Bytes) : (frB ty fl st pl).length = 9 + pl.length := by
 simp [frB, beP]
 omega
theorem takeF_frB (ty fl st : Nat) (pl rest : Bytes) (most : Nat) (f : Fr) (hty : ty < 256) (hfl : fl < 256) (hst : st < 2147483648) (hm : pl.length ≤ most) (hm2 : most ≤ 16777215) (hmis : misF ty st = false) (hsz : sizeF ty fl pl.length = false)
  (ho : openF ty fl st pl = some f) (h8 : ¬ (ty = 8 ∧ f.inc = 0)) (hu : unfF f.sets = none) : takeF (frB ty fl st pl ++ rest) most = (f, 9 + pl.length, {}) := by
 have hlen : (frB ty fl st pl ++ rest).length = 9 + pl.length + rest.length := (by rw [List.length_append, frB_length]);have e3 : (frB ty fl st pl ++ rest).take 3 = beP pl.length 3 := (by simp [frB, beP]);have eb : beN ((frB ty fl st pl ++ rest).take 3) = pl.length := (by rw [e3, beN_beP3 _ (by omega)])
 have ety : (((frB ty fl st pl ++ rest).drop 3).headD 0).toNat = ty := by
  have : ((frB ty fl st pl ++ rest).drop 3).headD 0 = UInt8.ofNat ty := (by simp [frB, beP])
  rw [this, u8_nat];omega
 have efl : (((frB ty fl st pl ++ rest).drop 4).headD 0).toNat = fl := by
  have : ((frB ty fl st pl ++ rest).drop 4).headD 0 = UInt8.ofNat fl := (by simp [frB, beP])
  rw [this, u8_nat];omega
 have est : numF (frB ty fl st pl ++ rest) 5 % 2147483648 = st := by
  have : ((frB ty fl st pl ++ rest).drop 5).take 4 = beP st 4 := (by simp [frB, beP])
  rw [numF, this, beN_beP4 _ (by omega)];omega
 have epl : ((frB ty fl st pl ++ rest).take (9 + pl.length)).drop 9 = pl := by
  have e1 : (frB ty fl st pl ++ rest).take (9 + pl.length) = frB ty fl st pl := (by rw [← frB_length ty fl st pl];simp);rw [e1];simp [frB, beP]
 unfold takeF;rw [if_neg (by omega), eb, if_neg (by omega), if_neg (by omega), ety, efl, est, hmis, epl, hsz, ho];simp only [Bool.false_eq_true, if_false];rw [if_neg h8, hu]
structure Tk (most : Nat) (ty fl st : Nat) (pl : Bytes) (f : Fr) : Prop where
 hty : ty < 256
 hfl : fl < 256
 hst : st < 2147483648
 len : pl.length ≤ most
 mis : misF ty st = false
 siz : sizeF ty fl pl.length = false
 opn : openF ty fl st pl = some f
 inc : ¬ (ty = 8 ∧ f.inc = 0)
 unf : unfF f.sets = none
theorem itemsF_nil (most k : Nat) : itemsF most (k + 1) [] = ([], [], false) := by
 have e : takeF [] most = ({}, 0, {}) := (by unfold takeF;rw [if_pos (by decide)]);simp [itemsF, e]
theorem itemsF_cons {most ty fl st : Nat} {pl : Bytes} {f : Fr} (h : Tk most ty fl st pl f) (hm : most ≤ 16777215) (k : Nat) (rest : Bytes) :
  itemsF most (k + 1) (frB ty fl st pl ++ rest) = ((f, {}) :: (itemsF most k rest).1, (itemsF most k rest).2) := by
 have e := takeF_frB ty fl st pl rest most f h.hty h.hfl h.hst h.len hm h.mis h.siz h.opn h.inc h.unf;have ed : (frB ty fl st pl ++ rest).drop (9 + pl.length) = rest := (by rw [← frB_length ty fl st pl];simp);rw [itemsF, e];simp only [ed];rw [if_neg (by rintro ⟨h1, -⟩;omega), if_neg (by rintro ⟨h1, -⟩;cases h1)]
theorem itemsF_1 {most ty fl st k : Nat} {pl : Bytes} {f : Fr} (h : Tk most ty fl st pl f) (hm : most ≤ 16777215) (hk : 2 ≤ k) : itemsF most k (frB ty fl st pl) = ([(f, {})], [], false) := by
 obtain ⟨j, rfl⟩ : ∃ j, k = j + 1 + 1 := ⟨k - 2, by omega⟩;have e := itemsF_cons h hm (j + 1) [];rw [List.append_nil, itemsF_nil] at e;exact e
theorem itemsF_2 {most ty fl st ty2 fl2 st2 k : Nat} {pl pl2 : Bytes} {f f2 : Fr} (h : Tk most ty fl st pl f) (h2 : Tk most ty2 fl2 st2 pl2 f2) (hm : most ≤ 16777215) (hk : 3 ≤ k) : itemsF most k (frB ty fl st pl ++ frB ty2 fl2 st2 pl2) = ([(f, {}), (f2, {})], [], false) := by
 obtain ⟨j, rfl⟩ : ∃ j, k = j + 1 := ⟨k - 1, by omega⟩;rw [itemsF_cons h hm, itemsF_1 h2 hm (by omega)]
theorem tk_set0 {most : Nat} : Tk most 4 0 0 [] { ty := 4 } := ⟨by decide, by decide, by decide, Nat.zero_le _, rfl, rfl, rfl, by decide, rfl⟩
theorem tk_set1 {most n : Nat} (hm : 6 ≤ most) (hn : n < 2147483648) : Tk most 4 0 0 (beP 4 2 ++ beP n 4) { ty := 4, sets := [(4, n)] } := by
 refine ⟨by decide, by decide, by decide, hm, rfl, by simp [sizeF, beP], ?_, (by rintro ⟨h, -⟩;cases h), ?_⟩
 ·have e : setsK (beP 4 2 ++ beP n 4) 1 = [(4, n)] := by
   have e1 : beN (((beP 4 2 ++ beP n 4).drop (6 * 0)).take 2) = 4 := rfl
   have e2 : numF (beP 4 2 ++ beP n 4) (6 * 0 + 2) = n := by
    have : ((beP 4 2 ++ beP n 4).drop (6 * 0 + 2)).take 4 = beP n 4 := (by simp [beP])
    rw [numF, this, beN_beP4 _ (by omega)]
   simp only [setsK, List.range_succ, List.range_zero, List.nil_append, List.map_cons, List.map_nil, set1, e1, e2]
  show openF 4 0 0 _ = _
  have el : (beP 4 2 ++ beP n 4).length = 6 := rfl;simp [openF, el, e]
 ·simp [unfF, unf1]
  omega
theorem dhF_plain (ty fl : Nat) (l : Bytes) (h1 : fl &&& 8 = 0) (h2 : fl &&& 32 = 0) : dhF ty fl 1 l = some { ty := ty, fl := fl, st := 1, data := l } := by
 simp [dhF, h1, h2]
theorem tk_head {most : Nat} (l : Bytes) (hl : l.length ≤ most) (fl : Nat) (hfl : fl = 4 ∨ fl = 5) : Tk most 1 fl 1 l { ty := 1, fl := fl, st := 1, data := l } := by
 rcases hfl with rfl | rfl <;> exact ⟨by decide, by decide, by decide, hl, rfl, by simp [sizeF, aheadF], (by rw [openF, if_pos (.inr rfl)];exact dhF_plain _ _ _ rfl rfl), (by rintro ⟨h, -⟩;cases h), rfl⟩
theorem tk_win {most n : Nat} (hm : 4 ≤ most) (h0 : 0 < n) (hn : n < 2147483648) : Tk most 8 0 1 (beP n 4) { ty := 8, st := 1, inc := n } := by
 have e2 : numF (beP n 4) 0 = n := by
  have : ((beP n 4).drop 0).take 4 = beP n 4 := (by simp [beP])
  rw [numF, this, beN_beP4 _ (by omega)]
 refine ⟨by decide, by decide, by decide, hm, rfl, rfl, ?_, ?_, rfl⟩
 ·simp only [openF, e2]
  simp
  omega
 ·rintro ⟨-, h⟩
  simp at h
  omega
open Go.RowKit Go.Dr
theorem wp_apStr {P : Program} {o : Oper} {a : Act} {K : Act → World → Prop} {Q : Exit → Act → World → Prop} {w : World} (s x : Operand) (t u : TypeId)
  (ho : o.op = .call { callee := .builtin .append, args := #[s, x], argTypes := #[t, u] })
  (base : Nat) (e : TypeId) (ht : P.underlying t = some (.slice e)) (hu : P.underlying u = some .string) (hi : (P.info? e).map (fun i => (i.zero, i.size, i.bytes)) = some (some (.int .u8 0), 1, 1))
  (v : Value) (n : Nat) (xs : List Value) (hs : a.eval s = v) (hown : w.ownsRow base e 1 v n xs) (l : Bytes) (hx : a.eval x = S l)
  (hm : n + l.length ≤ 140737488355328) (hbase : base ≤ w.heap.size)
  (h : ∀ a' c' w', w'.ownsRow base e 1 (.slice a' (n + l.length) c') (n + l.length) (xs ++ l.map B8) → Below base w w' → K (a.put o.dst (.slice a' (n + l.length) c')) w') : Oper.wp P o a w K Q := by
 obtain ⟨i, hi, hz, hsize, hby⟩ := info_parts hi;obtain ⟨v', w', hr, h2, h3, h4⟩ := Go.Lib.run_append_own_string (P := P) w base t u o.type e i ht hu hi hz hsize hby v n xs hown ⟨l.toArray⟩ (by unfold maxLen;show n + l.length ≤ _;omega) hm hbase;have hx' : a.eval x = .string ⟨l.toArray⟩ := hx
 unfold Oper.wp execOp;simp only [ho, resolve, invoke, builtin, Sem.run_bind, Sem.run_pure, Result.andThen_ok, List.map_toArray, List.map_cons, List.map_nil, hs, hx', hr];rw [strCells_b8] at h2;have ho2 : w'.ownsRow base e 1 v' (n + l.length) (xs ++ l.map B8) := h2;obtain ⟨a', c', rfl⟩ := own_form ho2;exact h a' c' w' ho2 (Bl.grown (Below.refl base w) hown h3 hbase (Nat.le_refl _))
theorem own_cap {w : World} {base : Nat} {e : TypeId} {size : Nat} {a : Option Addr} {n c : Nat} {xs : List Value} (h : w.ownsRow base e size (.slice a n c) n xs) : n ≤ c := by
 rcases h.2 with ⟨h1, h2⟩ | ⟨g, cap, cur, h1, _, _, h2, _⟩
 ·omega
 ·simp only [Value.slice.injEq] at h1
  omega
theorem run_append_zero0 (w : World) (ty : TypeId) (a : Option Addr) (n c : Nat) (h : n ≤ c) : (Builtin.append_ #[39, 3] ty #[.slice a n c, .int .i64 0]).run Tryz.prog w = .ok (.slice a n c) w := by
 obtain ⟨i, hi, hz, hsz, hby⟩ := info_parts (P := Tryz.prog) (e := 5) (z := .int .u8 0) (size := 1) (bytes := 1) (by kernel_rfl);have hw : IntKind.i64.wrap 0 = 0 := (by rfl)
 cases a with
 | none => simp [Builtin.append_, run_underlying Tryz.underlying39, run_underlying Tryz.underlying3, sizeOf, typeInfo, hi, hz, asInt, asIntOf, hw, h]
 | some a => simp [Builtin.append_, run_underlying Tryz.underlying39, run_underlying Tryz.underlying3, sizeOf, typeInfo, hi, hz, asInt, asIntOf, hw, h, storeCells]
theorem wp_apZero {o : Oper} {a : Act} {K : Act → World → Prop} {Q : Exit → Act → World → Prop} {w : World} (s x : Operand)
  (ho : o.op = .call { callee := .builtin .append, args := #[s, x], argTypes := #[39, 3] }) (ad : Option Addr) (n c : Nat) (hs : a.eval s = .slice ad n c) (hx : a.eval x = .int .i64 0) (hc : n ≤ c) (h : K (a.put o.dst (.slice ad n c)) w) : Oper.wp Tryz.prog o a w K Q := by
 have hr := run_append_zero0 w o.type ad n c hc;unfold Oper.wp execOp;simp only [ho, resolve, invoke, builtin, Sem.run_bind, Sem.run_pure, Result.andThen_ok, List.map_toArray, List.map_cons, List.map_nil, hs, hx, hr];exact h
abbrev OutB' (l : Bytes) (w : World) (e : Ending) (w' : World) : Prop := ∃ v, e = .returned v ∧ w'.ownsRow w.heap.size 5 1 v l.length (l.map B8) ∧ Below w.heap.size w w'
theorem pPut_of (w : World) (ty fl st : Nat) (hty : ty < 256) (hfl : fl < 256) (hst : st < 2147483648) (d c4 c5 c6 c7 c8 c9 c10 c11 : Value)
  (hMay : ∀ w1, Below w.heap.size w w1 → Calls Tryz.prog 77 #[.agg #[.int .i64 (ty : Int), .int .i64 (fl : Int), .int .i64 (st : Int), d, c4, c5, c6, c7, c8, c9, c10, c11]] w1 fun e w' => e = .returned (.bool true) ∧ Below w1.heap.size w1 w') (pl : Bytes) (hn : pl.length ≤ 16777215)
  (hPay : ∀ w1, Below w.heap.size w w1 → Calls Tryz.prog 78 #[.agg #[.int .i64 (ty : Int), .int .i64 (fl : Int), .int .i64 (st : Int), d, c4, c5, c6, c7, c8, c9, c10, c11]] w1 (OutB' pl w1)) :
  Calls Tryz.prog 45 #[.agg #[.int .i64 (ty : Int), .int .i64 (fl : Int), .int .i64 (st : Int), d, c4, c5, c6, c7, c8, c9, c10, c11]] w fun e w' => ∃ v, e = .returned (.tuple #[v, .int .i64 0]) ∧ w'.ownsRow w.heap.size 5 1 v (frB ty fl st pl).length ((frB ty fl st pl).map B8) ∧ Below w.heap.size w w' := by
 obtain ⟨W, eW⟩ : ∃ W, W = w.alloc (.cells #[.int .i64 (ty : Int), .int .i64 (fl : Int), .int .i64 (st : Int), d, c4, c5, c6, c7, c8, c9, c10, c11] 36) := ⟨_, rfl⟩;have hA : Blk W w.heap.size 36 #[.int .i64 (ty : Int), .int .i64 (fl : Int), .int .i64 (st : Int), d, c4, c5, c6, c7, c8, c9, c10, c11] := (by rw [eW];exact Blk.new _ _ _);have hb : Below w.heap.size w W := (by rw [eW];exact (Below.refl _ _).alloc (Nat.le_refl _) _);have hz := hb.size;obtain ⟨g0, g1, g2, g3, g4, g5, g6, g7, g8, g9, g10, g11⟩ := hA.c12;have hM := hMay W hb;have hm1 : (ty : Int) % 256 = (ty : Int) := (by omega);have hm2 : (fl : Int) % 256 = (fl : Int) := (by omega);have hm3 : (pl.length : Int) % 4294967296 = (pl.length : Int) := (by omega);have hm4 : ¬ (16777215 : Int) < (pl.length : Int) := (by omega);have hq1 : IntKind.u8.wrap (ty : Int) = (ty : Int) := IntWalk.u8_in _ (by omega);have hq2 : IntKind.u8.wrap (fl : Int) = (fl : Int) := IntWalk.u8_in _ (by omega);have hq3 : IntKind.u32.wrap (pl.length : Int) = (pl.length : Int) := IntWalk.u32_in _ (by omega);have hP3 := fun w => oPut3 pl.length (by omega) w
 have hP4 := fun w => pFour st (by omega) w
 go_enter Tryz.func45, Tryz.ntmps45
 go_upto_region 1 with fail;rw [← eW];clear eW
 go_upto_region 6 with (first
  | (go_at_call 77;(with_reducible refine hM.mono ?_);rintro e w1 ⟨rfl, hb1⟩;have hA1 := hA.on hb1;have hbw1 := hb.trans (hb1.mono hz);have hP := hPay w1 hbw1;have hz1 := hbw1.size;(have a0 : w1.cell? ⟨w.heap.size, 0, none⟩ = some (.int .i64 (ty : Int)) := hA1.cell 0;have a1 : w1.cell? ⟨w.heap.size, 1, none⟩ = some (.int .i64 (fl : Int)) := hA1.cell 1;have a2 : w1.cell? ⟨w.heap.size, 2, none⟩ = some (.int .i64 (st : Int)) := hA1.cell 2;have a3 : w1.cell? ⟨w.heap.size, 3, none⟩ = some (d) := hA1.cell 3;have a4 : w1.cell? ⟨w.heap.size, 4, none⟩ = some (c4) := hA1.cell 4;have a5 : w1.cell? ⟨w.heap.size, 5, none⟩ = some (c5) := hA1.cell 5;have a6 : w1.cell? ⟨w.heap.size, 6, none⟩ = some (c6) := hA1.cell 6;have a7 : w1.cell? ⟨w.heap.size, 7, none⟩ = some (c7) := hA1.cell 7;have a8 : w1.cell? ⟨w.heap.size, 8, none⟩ = some (c8) := hA1.cell 8;have a9 : w1.cell? ⟨w.heap.size, 9, none⟩ = some (c9) := hA1.cell 9;have a10 : w1.cell? ⟨w.heap.size, 10, none⟩ = some (c10) := hA1.cell 10;have a11 : w1.cell? ⟨w.heap.size, 11, none⟩ = some (c11) := hA1.cell 11))
  | (go_at_call 78;(with_reducible refine hP.mono ?_);rintro e w2 ⟨vp, rfl, hvp, hb2⟩;obtain ⟨ap, cp, rfl⟩ := own_form hvp;have hA2 := hA1.on hb2;have hbw2 := hbw1.trans (hb2.mono hz1);have hz2 := hbw2.size;have g0 : w2.cell? ⟨w.heap.size, 0, none⟩ = some (.int .i64 (ty : Int)) := hA2.cell 0;have g1 : w2.cell? ⟨w.heap.size, 1, none⟩ = some (.int .i64 (fl : Int)) := hA2.cell 1))
 have hlt2 := hA2.lt
 go_region_law (first
  | (have tok := hLx;refine step_of ?_ (by rfl);refine wp_appRd _ _ 39 (by rfl) w2.heap.size 5 (.int .u8 0) 1 1 Tryz.underlying39 (by kernel_rfl) rfl (by decide) _ _ _ (by rfl) (own_base hx (by simp)) _ _ _ _ (by rfl) (Rd.own (own_of_blk hLx (base := 0) (size := 1) (n := 2) (c := 2) (Nat.zero_le _) rfl rfl (by decide))) (by intro u hu;simp at hu;rcases hu with rfl | rfl <;> rfl) (by decide) (by decide) hz3 ?_;intro a4 k4 w4 hv4 hb4;have hbx4 : Below w2.heap.size w2 w4 := ((((Below.refl w2.heap.size w2).drew.alloc (Nat.le_refl _) _).trans (hb3.mono (by simp))).trans hb4))
  | (have tok := hLy;refine step_of ?_ (by rfl);refine wp_appRd _ _ 39 (by rfl) w2.heap.size 5 (.int .u8 0) 1 1 Tryz.underlying39 (by kernel_rfl) rfl (by decide) _ _ _ (by rfl) ((own_base hx (Nat.le_refl _)).alloc _) _ _ _ _ (by rfl) (Rd.lit w3 _ #[.int .u8 (ty : Int), .int .u8 (fl : Int)] 1 2 rfl (by decide)) (by intro u hu;simp at hu;rcases hu with rfl | rfl <;> rfl) (by decide) (by decide) (by simp;omega) ?_;intro a4 k4 w4 hv4 hb4;have hbx4 : Below w2.heap.size w2 w4 := (((Below.refl w2.heap.size w2).drew.trans hb3).alloc hz3 _).trans hb4)
  | (go_simp;go_at_call 79;(with_reducible refine (hP3 _).mono ?_);rintro e w3 ⟨x3, rfl, hx, hb3⟩;obtain ⟨a3, k3, rfl⟩ := own_form hx;first
   | (have hLx := Blk.on (show Blk (w2.drew.alloc (.cells #[.int .u8 (ty : Int), .int .u8 (fl : Int)] 5)) w2.heap.size _ _ from Blk.new _ _ _) hb3;have hA3 := Blk.on (hA2.drew.alloc (.cells #[.int .u8 (ty : Int), .int .u8 (fl : Int)] 5)) hb3;have hz3 : w2.heap.size ≤ w3.heap.size := (by have := hb3.size;simp at this;omega))
   | (have hLy := hb3;have hA3 := Blk.on hA2.drew hb3;have hz3 : w2.heap.size ≤ w3.heap.size := hb3.size;have g0 : w3.cell? ⟨w.heap.size, 0, none⟩ = some (.int .i64 (ty : Int)) := hA3.cell 0;have g1 : w3.cell? ⟨w.heap.size, 1, none⟩ = some (.int .i64 (fl : Int)) := hA3.cell 1)))
 all_goals (
  have hbw4 := hbw2.trans (hbx4.mono hz2);have hA4 := hA2.on hbx4;have hR4 := (Rd.own hvp).below hbx4;have hz4 : w2.heap.size ≤ w4.heap.size := hbx4.size;have g2 : w4.cell? ⟨w.heap.size, 2, none⟩ = some (.int .i64 (st : Int)) := hA4.cell 2
  go_wp2_with first
   | (have tok := hv6;at_builtin;refine wpList_appRd rfl _ _ 39 rfl w2.heap.size 5 (.int .u8 0) 1 1 Tryz.underlying39 (by kernel_rfl) rfl (by decide) _ _ _ rfl hv6 _ _ _ _ rfl ((hR4.below (hb5.mono hz4)).below hb6) (b8_one2 _) (by unfold maxLen;omega) (by omega) (by omega) ?_;intro a7 k7 w7 hv7 hb7)
   | (at_builtin;refine wpList_appRd rfl _ _ 39 rfl w2.heap.size 5 (.int .u8 0) 1 1 Tryz.underlying39 (by kernel_rfl) rfl (by decide) _ _ _ rfl (own_below hv4 hb5) _ _ _ _ rfl (Rd.own hv5) (b8_one2 _) (by decide) (by decide) (by omega) ?_;intro a6 k6 w6 hv6 hb6;have hz6 := hb6.size)
   | (go_at_call 80;(with_reducible refine (hP4 _).mono ?_);rintro e w5 ⟨x5, rfl, hv5, hb5⟩;obtain ⟨a5, k5, rfl⟩ := own_form hv5;have hz5 := hb5.size)
  go_ret2;refine ⟨_, rfl, ?_, ((hbw4.trans (hb5.mono (Nat.le_trans hz2 hz4))).trans (hb6.mono hz2)).trans (hb7.mono hz2)⟩;rw [frB_length];have hv8 := own_base hv7 hz2
  have e : (frB ty fl st pl).map B8 = (beP pl.length 3).map B8 ++ [.int .u8 (ty : Int), .int .u8 (fl : Int)] ++ (beP st 4).map B8 ++ pl.map B8 := by
   simp only [frB, List.map_append, List.map_cons, List.map_nil, b8_of, hm1, hm2]
  rw [e]
  exact hv8)
theorem ppay_Set (fl st : Nat) (hfl : fl < 256) (hst : st < 2147483648) (w : World) : Calls Tryz.prog 78 #[.agg #[.int .i64 4, .int .i64 (fl : Int), .int .i64 (st : Int), S [], .int .i64 0, .slice none 0 0, .int .i64 0, .int .i64 0, .int .i64 0, .int .i64 0, .int .i64 0, .bool false]] w (OutB' ([]) w) := by
 obtain ⟨W, eW⟩ : ∃ W, W = w.alloc (.cells #[.int .i64 4, .int .i64 (fl : Int), .int .i64 (st : Int), S [], .int .i64 0, .slice none 0 0, .int .i64 0, .int .i64 0, .int .i64 0, .int .i64 0, .int .i64 0, .bool false] 36) := ⟨_, rfl⟩;have hA : Blk W w.heap.size 36 #[.int .i64 4, .int .i64 (fl : Int), .int .i64 (st : Int), S [], .int .i64 0, .slice none 0 0, .int .i64 0, .int .i64 0, .int .i64 0, .int .i64 0, .int .i64 0, .bool false] := (by rw [eW];exact Blk.new _ _ _);have hb : Below w.heap.size w W := (by rw [eW];exact (Below.refl _ _).alloc (Nat.le_refl _) _);have hz := hb.size;have a0 : W.cell? ⟨w.heap.size, 0, none⟩ = some (.int .i64 4) := hA.cell 0;have a1 : W.cell? ⟨w.heap.size, 1, none⟩ = some (.int .i64 (fl : Int)) := hA.cell 1;have a2 : W.cell? ⟨w.heap.size, 2, none⟩ = some (.int .i64 (st : Int)) := hA.cell 2;have a3 : W.cell? ⟨w.heap.size, 3, none⟩ = some (S []) := hA.cell 3;have a4 : W.cell? ⟨w.heap.size, 4, none⟩ = some (.int .i64 0) := hA.cell 4;have a5 : W.cell? ⟨w.heap.size, 5, none⟩ = some (.slice none 0 0) := hA.cell 5;have a6 : W.cell? ⟨w.heap.size, 6, none⟩ = some (.int .i64 0) := hA.cell 6;have a7 : W.cell? ⟨w.heap.size, 7, none⟩ = some (.int .i64 0) := hA.cell 7;have a8 : W.cell? ⟨w.heap.size, 8, none⟩ = some (.int .i64 0) := hA.cell 8;have a9 : W.cell? ⟨w.heap.size, 9, none⟩ = some (.int .i64 0) := hA.cell 9;have a10 : W.cell? ⟨w.heap.size, 10, none⟩ = some (.int .i64 0) := hA.cell 10;have a11 : W.cell? ⟨w.heap.size, 11, none⟩ = some (.bool false) := hA.cell 11;go_enter Tryz.func78, Tryz.ntmps78
 go_upto_region 1 with fail;rw [← eW];clear eW;go_wp2;refine wp_loop_rounds 1 ?_;rw [rounds_succ];go_wp2;go_ret;exact ⟨_, rfl, World.ownsRow_nil _ _ _ _, hb⟩
theorem pPut_Set (fl st : Nat) (hfl : fl < 256) (hst : st < 2147483648) (w : World) : Calls Tryz.prog 45 #[.agg #[.int .i64 4, .int .i64 (fl : Int), .int .i64 (st : Int), S [], .int .i64 0, .slice none 0 0, .int .i64 0, .int .i64 0, .int .i64 0, .int .i64 0, .int .i64 0, .bool false]] w fun e w' => ∃ v, e = .returned (.tuple #[v, .int .i64 0]) ∧ w'.ownsRow w.heap.size 5 1 v (frB 4 fl st ([])).length ((frB 4 fl st ([])).map B8) ∧ Below w.heap.size w w' :=
 pPut_of w 4 fl st (by decide) hfl hst _ _ _ _ _ _ _ _ _ (fun w1 _ => pmay_Set fl st hfl hst w1) ([]) (by simp) (fun w1 _ => ppay_Set fl st hfl hst w1)
theorem ppay_Hdr (fl st : Nat) (l : Bytes) (h8 : Go.bits .and .i64 (fl : Int) 8 = 0) (h32 : Go.bits .and .i64 (fl : Int) 32 = 0) (hfl : fl < 256) (hst : st < 2147483648) (hl : l.length ≤ 16777215) (w : World) : Calls Tryz.prog 78 #[.agg #[.int .i64 1, .int .i64 (fl : Int), .int .i64 (st : Int), S l, .int .i64 0, .slice none 0 0, .int .i64 0, .int .i64 0, .int .i64 0, .int .i64 0, .int .i64 0, .bool false]] w (OutB' (l) w) := by
 obtain ⟨W, eW⟩ : ∃ W, W = w.alloc (.cells #[.int .i64 1, .int .i64 (fl : Int), .int .i64 (st : Int), S l, .int .i64 0, .slice none 0 0, .int .i64 0, .int .i64 0, .int .i64 0, .int .i64 0, .int .i64 0, .bool false] 36) := ⟨_, rfl⟩;have hA : Blk W w.heap.size 36 #[.int .i64 1, .int .i64 (fl : Int), .int .i64 (st : Int), S l, .int .i64 0, .slice none 0 0, .int .i64 0, .int .i64 0, .int .i64 0, .int .i64 0, .int .i64 0, .bool false] := (by rw [eW];exact Blk.new _ _ _);have hb : Below w.heap.size w W := (by rw [eW];exact (Below.refl _ _).alloc (Nat.le_refl _) _);have hz := hb.size;have a0 : W.cell? ⟨w.heap.size, 0, none⟩ = some (.int .i64 1) := hA.cell 0;have a1 : W.cell? ⟨w.heap.size, 1, none⟩ = some (.int .i64 (fl : Int)) := hA.cell 1;have a2 : W.cell? ⟨w.heap.size, 2, none⟩ = some (.int .i64 (st : Int)) := hA.cell 2;have a3 : W.cell? ⟨w.heap.size, 3, none⟩ = some (S l) := hA.cell 3;have a4 : W.cell? ⟨w.heap.size, 4, none⟩ = some (.int .i64 0) := hA.cell 4;have a5 : W.cell? ⟨w.heap.size, 5, none⟩ = some (.slice none 0 0) := hA.cell 5;have a6 : W.cell? ⟨w.heap.size, 6, none⟩ = some (.int .i64 0) := hA.cell 6;have a7 : W.cell? ⟨w.heap.size, 7, none⟩ = some (.int .i64 0) := hA.cell 7;have a8 : W.cell? ⟨w.heap.size, 8, none⟩ = some (.int .i64 0) := hA.cell 8;have a9 : W.cell? ⟨w.heap.size, 9, none⟩ = some (.int .i64 0) := hA.cell 9;have a10 : W.cell? ⟨w.heap.size, 10, none⟩ = some (.int .i64 0) := hA.cell 10;have a11 : W.cell? ⟨w.heap.size, 11, none⟩ = some (.bool false) := hA.cell 11;have h8b : (Go.bits .and .i64 (fl : Int) 8 != 0) = false := (by rw [h8];rfl);have h32b : (Go.bits .and .i64 (fl : Int) 32 != 0) = false := (by rw [h32];rfl);have hlt := hA.lt;go_enter Tryz.func78, Tryz.ntmps78
 go_upto_region 1 with fail;rw [← eW];clear eW;go_upto_region 9 with fail
 go_region_law (first
  | (have tok := hv;refine step_of ?_ (by rfl);refine wp_apZero _ _ (by rfl) av l.length cv (by rfl) (by rfl) (by have := own_cap hv;omega) ?_)
  | (refine step_of ?_ (by rfl);refine wp_apStr _ _ _ _ rfl (w.heap.size + 1) 5 Tryz.underlying39 Tryz.underlying9 (by kernel_rfl) _ _ _ rfl (World.ownsRow_nil _ _ _ _) l rfl (by omega) hlt ?_;intro av cv w2 hv hb2;have y4 : w2.cell? ⟨w.heap.size, 4, none⟩ = some (.int .i64 0) := (hA.drew.below hb2 (Nat.lt_succ_self _)).cell 4))
 all_goals (
  go_wp2;go_ret;have hv' := own_base hv (Nat.le_succ w.heap.size)
  simp only [Nat.zero_add, List.nil_append] at hv'
  exact ⟨_, rfl, hv', hb.drew.trans (hb2.mono (Nat.le_succ _))⟩)
theorem pPut_Hdr (fl st : Nat) (l : Bytes) (h8 : Go.bits .and .i64 (fl : Int) 8 = 0) (h32 : Go.bits .and .i64 (fl : Int) 32 = 0) (hfl : fl < 256) (hst : st < 2147483648) (hl : l.length ≤ 16777215) (w : World) : Calls Tryz.prog 45 #[.agg #[.int .i64 1, .int .i64 (fl : Int), .int .i64 (st : Int), S l, .int .i64 0, .slice none 0 0, .int .i64 0, .int .i64 0, .int .i64 0, .int .i64 0, .int .i64 0, .bool false]] w fun e w' => ∃ v, e = .returned (.tuple #[v, .int .i64 0]) ∧ w'.ownsRow w.heap.size 5 1 v (frB 1 fl st (l)).length ((frB 1 fl st (l)).map B8) ∧ Below w.heap.size w w' :=
 pPut_of w 1 fl st (by decide) hfl hst _ _ _ _ _ _ _ _ _ (fun w1 _ => pmay_Hdr fl st l h8 h32 hfl hst hl w1) (l) (hl) (fun w1 _ => ppay_Hdr fl st l h8 h32 hfl hst hl w1)
theorem ppay_Dat (fl st : Nat) (l : Bytes) (h8 : Go.bits .and .i64 (fl : Int) 8 = 0) (hfl : fl < 256) (hst : st < 2147483648) (hl : l.length ≤ 16777215) (w : World) : Calls Tryz.prog 78 #[.agg #[.int .i64 0, .int .i64 (fl : Int), .int .i64 (st : Int), S l, .int .i64 0, .slice none 0 0, .int .i64 0, .int .i64 0, .int .i64 0, .int .i64 0, .int .i64 0, .bool false]] w (OutB' (l) w) := by
 obtain ⟨W, eW⟩ : ∃ W, W = w.alloc (.cells #[.int .i64 0, .int .i64 (fl : Int), .int .i64 (st : Int), S l, .int .i64 0, .slice none 0 0, .int .i64 0, .int .i64 0, .int .i64 0, .int .i64 0, .int .i64 0, .bool false] 36) := ⟨_, rfl⟩;have hA : Blk W w.heap.size 36 #[.int .i64 0, .int .i64 (fl : Int), .int .i64 (st : Int), S l, .int .i64 0, .slice none 0 0, .int .i64 0, .int .i64 0, .int .i64 0, .int .i64 0, .int .i64 0, .bool false] := (by rw [eW];exact Blk.new _ _ _);have hb : Below w.heap.size w W := (by rw [eW];exact (Below.refl _ _).alloc (Nat.le_refl _) _);have hz := hb.size;have a0 : W.cell? ⟨w.heap.size, 0, none⟩ = some (.int .i64 0) := hA.cell 0;have a1 : W.cell? ⟨w.heap.size, 1, none⟩ = some (.int .i64 (fl : Int)) := hA.cell 1;have a2 : W.cell? ⟨w.heap.size, 2, none⟩ = some (.int .i64 (st : Int)) := hA.cell 2;have a3 : W.cell? ⟨w.heap.size, 3, none⟩ = some (S l) := hA.cell 3;have a4 : W.cell? ⟨w.heap.size, 4, none⟩ = some (.int .i64 0) := hA.cell 4;have a5 : W.cell? ⟨w.heap.size, 5, none⟩ = some (.slice none 0 0) := hA.cell 5;have a6 : W.cell? ⟨w.heap.size, 6, none⟩ = some (.int .i64 0) := hA.cell 6;have a7 : W.cell? ⟨w.heap.size, 7, none⟩ = some (.int .i64 0) := hA.cell 7;have a8 : W.cell? ⟨w.heap.size, 8, none⟩ = some (.int .i64 0) := hA.cell 8;have a9 : W.cell? ⟨w.heap.size, 9, none⟩ = some (.int .i64 0) := hA.cell 9;have a10 : W.cell? ⟨w.heap.size, 10, none⟩ = some (.int .i64 0) := hA.cell 10;have a11 : W.cell? ⟨w.heap.size, 11, none⟩ = some (.bool false) := hA.cell 11;have h8b : (Go.bits .and .i64 (fl : Int) 8 != 0) = false := (by rw [h8];rfl);have hlt := hA.lt;go_enter Tryz.func78, Tryz.ntmps78
 go_upto_region 1 with fail;rw [← eW];clear eW;go_upto_region 9 with fail
 go_region_law (first
  | (have tok := hv;refine step_of ?_ (by rfl);refine wp_apZero _ _ (by rfl) av l.length cv (by rfl) (by rfl) (by have := own_cap hv;omega) ?_)
  | (refine step_of ?_ (by rfl);refine wp_apStr _ _ _ _ rfl (w.heap.size + 1) 5 Tryz.underlying39 Tryz.underlying9 (by kernel_rfl) _ _ _ rfl (World.ownsRow_nil _ _ _ _) l rfl (by omega) hlt ?_;intro av cv w2 hv hb2;have y4 : w2.cell? ⟨w.heap.size, 4, none⟩ = some (.int .i64 0) := (hA.drew.below hb2 (Nat.lt_succ_self _)).cell 4))
 all_goals (
  go_wp2;go_ret;have hv' := own_base hv (Nat.le_succ w.heap.size)
  simp only [Nat.zero_add, List.nil_append] at hv'
  exact ⟨_, rfl, hv', hb.drew.trans (hb2.mono (Nat.le_succ _))⟩)
theorem pPut_Dat (fl st : Nat) (l : Bytes) (h8 : Go.bits .and .i64 (fl : Int) 8 = 0) (hfl : fl < 256) (hst : st < 2147483648) (hl : l.length ≤ 16777215) (w : World) : Calls Tryz.prog 45 #[.agg #[.int .i64 0, .int .i64 (fl : Int), .int .i64 (st : Int), S l, .int .i64 0, .slice none 0 0, .int .i64 0, .int .i64 0, .int .i64 0, .int .i64 0, .int .i64 0, .bool false]] w fun e w' => ∃ v, e = .returned (.tuple #[v, .int .i64 0]) ∧ w'.ownsRow w.heap.size 5 1 v (frB 0 fl st (l)).length ((frB 0 fl st (l)).map B8) ∧ Below w.heap.size w w' :=
 pPut_of w 0 fl st (by decide) hfl hst _ _ _ _ _ _ _ _ _ (fun w1 _ => pmay_Dat fl st l h8 hfl hst hl w1) (l) (hl) (fun w1 _ => ppay_Dat fl st l h8 hfl hst hl w1)
end Go.Proofs.YtcodgfmombehoaaGreatDoor
