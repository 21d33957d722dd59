/- Parts of the proof of pt_root: the texts Tkp Law24c Win1 Win2. -/
import Derived.Test.YtkeeofhjdffhbaaGreatDoorT14
import Derived.Test.YtkeeofhjdffhbaaGreatDoorT17
import Derived.Test.YtkeeofhjdffhbaaGreatDoorT19
import Derived.Test.YtkeeofhjdffhbaaGreatDoorT20
set_option linter.unusedSimpArgs false
set_option linter.unusedVariables false
set_option linter.unnecessarySimpa false
namespace Go.Proofs.YtkeeofhjdffhbaaGreatDoor
open Go.RowKit Go.Dr
/-- a frame's bytes -/
def frB (ty fl st : Nat) (pl : Bytes) : Bytes := beP pl.length 3 ++ [UInt8.ofNat ty, UInt8.ofNat fl] ++ beP st 4 ++ pl
theorem u8_nat (n : Nat) : (UInt8.ofNat n).toNat = n % 256 := by simp
theorem beN_beP3 (n : Nat) (h : n < 16777216) : beN (beP n 3) = n := by
 simp [beN, beP]
 omega
theorem beN_beP4 (n : Nat) (h : n < 4294967296) : beN (beP n 4) = n := by
 simp [beN, beP]
 omega
theorem frB_length (ty fl st : Nat) (pl : Bytes) : (frB ty fl st pl).length = 9 + pl.length := by
 simp [frB, beP]
 omega
theorem takeF_frB (ty fl st : Nat) (pl rest : Bytes) (most : Nat) (f : Fr) (hty : ty < 256) (hfl : fl < 256) (hst : st < 2147483648) (hm : pl.length ≤ most) (hm2 : most ≤ 16777215) (hmis : misF ty st = false) (hsz : sizeF ty fl pl.length = false)
  (ho : openF ty fl st pl = some f) (h8 : ¬ (ty = 8 ∧ f.inc = 0)) (hu : unfF f.sets = none) : takeF (frB ty fl st pl ++ rest) most = (f, 9 + pl.length, {}) := by
 have hlen : (frB ty fl st pl ++ rest).length = 9 + pl.length + rest.length := by rw [List.length_append, frB_length]
 have e3 : (frB ty fl st pl ++ rest).take 3 = beP pl.length 3 := by simp [frB, beP]
 have eb : beN ((frB ty fl st pl ++ rest).take 3) = pl.length := by rw [e3, beN_beP3 _ (by omega)]
 have ety : (((frB ty fl st pl ++ rest).drop 3).headD 0).toNat = ty := by
  have : ((frB ty fl st pl ++ rest).drop 3).headD 0 = UInt8.ofNat ty := by simp [frB, beP]
  rw [this, u8_nat];omega
 have efl : (((frB ty fl st pl ++ rest).drop 4).headD 0).toNat = fl := by
  have : ((frB ty fl st pl ++ rest).drop 4).headD 0 = UInt8.ofNat fl := by simp [frB, beP]
  rw [this, u8_nat];omega
 have est : numF (frB ty fl st pl ++ rest) 5 % 2147483648 = st := by
  have : ((frB ty fl st pl ++ rest).drop 5).take 4 = beP st 4 := by simp [frB, beP]
  rw [numF, this, beN_beP4 _ (by omega)]
  omega
 have epl : ((frB ty fl st pl ++ rest).take (9 + pl.length)).drop 9 = pl := by
  have e1 : (frB ty fl st pl ++ rest).take (9 + pl.length) = frB ty fl st pl := by rw [← frB_length ty fl st pl];simp
  rw [e1]
  simp [frB, beP]
 unfold takeF
 rw [if_neg (by omega), eb, if_neg (by omega), if_neg (by omega), ety, efl, est, hmis, epl, hsz, ho]
 simp only [Bool.false_eq_true, if_false]
 rw [if_neg h8, hu]
/-- frames that are taken as they were written -/
structure Tk (most : Nat) (ty fl st : Nat) (pl : Bytes) (f : Fr) : Prop where
 hty : ty < 256
 hfl : fl < 256
 hst : st < 2147483648
 len : pl.length ≤ most
 mis : misF ty st = false
 siz : sizeF ty fl pl.length = false
 opn : openF ty fl st pl = some f
 inc : ¬ (ty = 8 ∧ f.inc = 0)
 unf : unfF f.sets = none
theorem itemsF_nil (most k : Nat) : itemsF most (k + 1) [] = ([], [], false) := by
 have e : takeF [] most = ({}, 0, {}) := by unfold takeF;rw [if_pos (by decide)]
 simp [itemsF, e]
theorem itemsF_cons {most ty fl st : Nat} {pl : Bytes} {f : Fr} (h : Tk most ty fl st pl f) (hm : most ≤ 16777215) (k : Nat) (rest : Bytes) :
  itemsF most (k + 1) (frB ty fl st pl ++ rest) = ((f, {}) :: (itemsF most k rest).1, (itemsF most k rest).2) := by
 have e := takeF_frB ty fl st pl rest most f h.hty h.hfl h.hst h.len hm h.mis h.siz h.opn h.inc h.unf
 have ed : (frB ty fl st pl ++ rest).drop (9 + pl.length) = rest := by rw [← frB_length ty fl st pl];simp
 rw [itemsF, e]
 simp only [ed]
 rw [if_neg (by rintro ⟨h1, -⟩;omega), if_neg (by rintro ⟨h1, -⟩;cases h1)]
theorem itemsF_1 {most ty fl st k : Nat} {pl : Bytes} {f : Fr} (h : Tk most ty fl st pl f) (hm : most ≤ 16777215) (hk : 2 ≤ k) : itemsF most k (frB ty fl st pl) = ([(f, {})], [], false) := by
 obtain ⟨j, rfl⟩ : ∃ j, k = j + 1 + 1 := ⟨k - 2, by omega⟩
 have e := itemsF_cons h hm (j + 1) []
 rw [List.append_nil, itemsF_nil] at e
 exact e
theorem itemsF_2 {most ty fl st ty2 fl2 st2 k : Nat} {pl pl2 : Bytes} {f f2 : Fr} (h : Tk most ty fl st pl f) (h2 : Tk most ty2 fl2 st2 pl2 f2) (hm : most ≤ 16777215) (hk : 3 ≤ k) : itemsF most k (frB ty fl st pl ++ frB ty2 fl2 st2 pl2) = ([(f, {}), (f2, {})], [], false) := by
 obtain ⟨j, rfl⟩ : ∃ j, k = j + 1 := ⟨k - 1, by omega⟩
 rw [itemsF_cons h hm, itemsF_1 h2 hm (by omega)]
theorem itemsF_3 {most ty fl st ty2 fl2 st2 ty3 fl3 st3 k : Nat} {pl pl2 pl3 : Bytes} {f f2 f3 : Fr} (h : Tk most ty fl st pl f) (h2 : Tk most ty2 fl2 st2 pl2 f2) (h3 : Tk most ty3 fl3 st3 pl3 f3) (hm : most ≤ 16777215) (hk : 4 ≤ k) :
  itemsF most k (frB ty fl st pl ++ (frB ty2 fl2 st2 pl2 ++ frB ty3 fl3 st3 pl3)) = ([(f, {}), (f2, {}), (f3, {})], [], false) := by
 obtain ⟨j, rfl⟩ : ∃ j, k = j + 1 := ⟨k - 1, by omega⟩
 rw [itemsF_cons h hm, itemsF_2 h2 h3 hm (by omega)]
theorem tk_set0 {most : Nat} : Tk most 4 0 0 [] { ty := 4 } := ⟨by decide, by decide, by decide, Nat.zero_le _, rfl, rfl, rfl, by decide, rfl⟩
theorem tk_set1 {most n : Nat} (hm : 6 ≤ most) (hn : n < 2147483648) : Tk most 4 0 0 (beP 4 2 ++ beP n 4) { ty := 4, sets := [(4, n)] } := by
 refine ⟨by decide, by decide, by decide, hm, rfl, by simp [sizeF, beP], ?_, (by rintro ⟨h, -⟩;cases h), ?_⟩
 ·have e : setsK (beP 4 2 ++ beP n 4) 1 = [(4, n)] := by
   have e1 : beN (((beP 4 2 ++ beP n 4).drop (6 * 0)).take 2) = 4 := rfl
   have e2 : numF (beP 4 2 ++ beP n 4) (6 * 0 + 2) = n := by
    have : ((beP 4 2 ++ beP n 4).drop (6 * 0 + 2)).take 4 = beP n 4 := by simp [beP]
    rw [numF, this, beN_beP4 _ (by omega)]
   simp only [setsK, List.range_succ, List.range_zero, List.nil_append, List.map_cons, List.map_nil, set1, e1, e2]
  show openF 4 0 0 _ = _
  have el : (beP 4 2 ++ beP n 4).length = 6 := rfl
  simp [openF, el, e]
 ·simp [unfF, unf1]
  omega
theorem dhF_plain (ty fl : Nat) (l : Bytes) (h1 : fl &&& 8 = 0) (h2 : fl &&& 32 = 0) : dhF ty fl 1 l = some { ty := ty, fl := fl, st := 1, data := l } := by
 simp [dhF, h1, h2]
theorem tk_dat {most : Nat} (l : Bytes) (hl : l.length ≤ most) (fl : Nat) (hfl : fl = 0 ∨ fl = 1) : Tk most 0 fl 1 l { fl := fl, st := 1, data := l } := by
 rcases hfl with rfl | rfl <;> exact ⟨by decide, by decide, by decide, hl, rfl, by simp [sizeF, aheadF], (by rw [openF, if_pos (.inl rfl)];exact dhF_plain _ _ _ rfl rfl), (by rintro ⟨h, -⟩;cases h), rfl⟩
theorem tk_head {most : Nat} (l : Bytes) (hl : l.length ≤ most) (fl : Nat) (hfl : fl = 4 ∨ fl = 5) : Tk most 1 fl 1 l { ty := 1, fl := fl, st := 1, data := l } := by
 rcases hfl with rfl | rfl <;> exact ⟨by decide, by decide, by decide, hl, rfl, by simp [sizeF, aheadF], (by rw [openF, if_pos (.inr rfl)];exact dhF_plain _ _ _ rfl rfl), (by rintro ⟨h, -⟩;cases h), rfl⟩
end Go.Proofs.YtkeeofhjdffhbaaGreatDoor
namespace Go.Proofs.YtkeeofhjdffhbaaGreatDoor
open Go.RowKit Go.Dr
/-- answers these bytes, in memory of its own -/
def OutB (l : Bytes) (w : World) (e : Ending) (w' : World) : Prop := ∃ v, e = .returned v ∧ w'.ownsRow w.heap.size 5 1 v l.length (l.map B8) ∧ Below w.heap.size w w'
set_option maxRecDepth 100000 in
set_option maxHeartbeats 4000000 in
theorem bytes_any {c0 c1 c2 c3 c4 c5 c6 c7 c8 c9 c10 c11 : Value} (l : Bytes) (w : World)
  (hP : ∀ w1, Below w.heap.size w w1 → Calls Tryz.prog 8 #[.agg #[c0, c1, c2, c3, c4, c5, c6, c7, c8, c9, c10, c11]] w1 fun e w' => ∃ v, e = .returned (.tuple #[v, .int .i64 0]) ∧ w'.ownsRow w1.heap.size 5 1 v l.length (l.map B8) ∧ Below w1.heap.size w1 w') :
  Calls Tryz.prog 10 #[.agg #[c0, c1, c2, c3, c4, c5, c6, c7, c8, c9, c10, c11]] w (OutB l w) := by
 have hb := (Below.refl w.heap.size w).alloc (Nat.le_refl _) (.cells #[c0, c1, c2, c3, c4, c5, c6, c7, c8, c9, c10, c11] 34)
 have hP1 := hP _ hb
 have hsz := hb.size
 go_enter Tryz.func10, Tryz.ntmps10
 go_wp2_with (go_at_call 8;(with_reducible refine hP1.mono ?_);rintro e w2 ⟨v, rfl, hown, hb2⟩)
 go_ret
 exact ⟨_, rfl, own_base hown hsz, hb.trans (hb2.mono hsz)⟩
abbrev frame0 (ty fl st : Int) (d : Value) (vs : Value) (inc : Int) : Value := .agg #[.int .i64 ty, .int .i64 fl, .int .i64 st, d, .int .i64 0, vs, .int .i64 0, .int .i64 0, .int .i64 inc, .int .i64 0, .int .i64 0, .bool false]
theorem bytes_Set0 (w : World) : Calls Tryz.prog 10 #[frame0 4 0 0 (S []) (.slice none 0 0) 0] w (OutB (frB 4 0 0 []) w) := bytes_any _ w fun w1 _ => put_Set0 w1
theorem bytes_Hd4 (l : Bytes) (hl : l.length ≤ 16384) (w : World) : Calls Tryz.prog 10 #[frame0 1 4 1 (S l) (.slice none 0 0) 0] w (OutB (frB 1 4 1 l) w) := bytes_any _ w fun w1 _ => by rw [frB_length];exact put_Hd4 l hl w1
theorem bytes_Hd5 (l : Bytes) (hl : l.length ≤ 16384) (w : World) : Calls Tryz.prog 10 #[frame0 1 5 1 (S l) (.slice none 0 0) 0] w (OutB (frB 1 5 1 l) w) := bytes_any _ w fun w1 _ => by rw [frB_length];exact put_Hd5 l hl w1
theorem bytes_Dat0 (l : Bytes) (hl : l.length ≤ 16384) (w : World) : Calls Tryz.prog 10 #[frame0 0 0 1 (S l) (.slice none 0 0) 0] w (OutB (frB 0 0 1 l) w) := bytes_any _ w fun w1 _ => by rw [frB_length];exact put_Dat0 l hl w1
end Go.Proofs.YtkeeofhjdffhbaaGreatDoor
namespace Go.Proofs.YtkeeofhjdffhbaaGreatDoor
open Go.RowKit Go.Dr
/-- How a number reads. -/
def Rn : Value → Option (DataW Unit × List MemPlace)
 | .int .i64 x => some (.lit (.int .i64 x), [])
 | _ => none
theorem Rn_int (x : Int) : Rn (.int .i64 x) = some (.lit (.int .i64 x), []) := rfl
theorem Rn_inv {v : Value} {x : Int} {ps : List MemPlace} (h : Rn v = some (.lit (.int .i64 x), ps)) : v = .int .i64 x := by
 unfold Rn at h
 split at h
 ·simp only [Option.some.injEq, Prod.mk.injEq, DataW.lit.injEq, Lit.int.injEq, true_and] at h
  rw [h.1]
 ·cases h
/-- the map that leads from 1 to a number, and from nothing else -/
def OM (w : World) (o : Nat) (x : Int) : Prop := w.ownsMap Tryz.prog 3 Rn o 1 (.map [(.int .i64 1, .lit (.int .i64 x))])
theorem zeroI64 (w : World) : (zeroValue 2).run Tryz.prog w = .ok (.int .i64 0) w := by kernel_rfl
theorem OM.get {w : World} {o : Nat} {x : Int} (h : OM w o x) : (Instr.lookup 91 (.map (some o)) (.int .i64 1) false).run Tryz.prog w = .ok (.int .i64 x) w := by
 obtain ⟨v, ps, hrun, hv⟩ := h.lookup (Maps.int_keyed Tryz.underlying3) Tryz.underlying91 (zeroI64 w) (zd := .lit (.int .i64 0)) (zp := []) rfl (Maps.keyOf_int_mk Tryz.underlying3 (show (Lit.int .i64 1).wf = true by decide))
 have hv := Rn_inv (x := x) hv
 subst hv
 exact hrun
theorem OM.put {w : World} {o : Nat} {x : Int} (h : OM w o x) (y : Int) : ∃ w', (Instr.mapUpdate 91 (.map (some o)) (.int .i64 1) (.int .i64 y)).run Tryz.prog w = .ok () w' ∧ OM w' o y ∧ w.mapTurned w' o := by
 obtain ⟨w', hrun, ho, hm⟩ := h.store (Maps.int_keyed Tryz.underlying3) Tryz.underlying91 (by decide) (Maps.keyOf_int_mk Tryz.underlying3 (show (Lit.int .i64 1).wf = true by decide)) (Rn_int y)
 refine ⟨w', hrun, ?_, hm⟩
 have := World.ownsMap.tight ho
 exact this
theorem OM.new {w : World} {o : Nat} (h : w.heap[o]? = some (.map #[] 0)) (y : Int) : ∃ w', (Instr.mapUpdate 91 (.map (some o)) (.int .i64 1) (.int .i64 y)).run Tryz.prog w = .ok () w' ∧ OM w' o y ∧ w.mapTurned w' o := by
 have h0 : w.ownsMap Tryz.prog 3 Rn o 0 (.map []) := ⟨#[], 0, h, ⟨by simp, MapKept.stamped_empty 0, by simp⟩, Nat.le_refl _, rfl⟩
 obtain ⟨w', hrun, ho, hm⟩ := h0.store (Maps.int_keyed Tryz.underlying3) Tryz.underlying91 (by decide) (Maps.keyOf_int_mk Tryz.underlying3 (show (Lit.int .i64 1).wf = true by decide)) (Rn_int y)
 exact ⟨w', hrun, ho, hm⟩
theorem OM.block {w w' : World} {o : Nat} {x : Int} (h : OM w o x) (hb : w'.heap[o]? = w.heap[o]?) : OM w' o x := by
 obtain ⟨es, clock, h1, F, h2, h3⟩ := h
 exact ⟨es, clock, hb.trans h1, F, h2, h3⟩
theorem OM.lt {w : World} {o : Nat} {x : Int} (h : OM w o x) : o < w.heap.size := by
 obtain ⟨es, clock, h1, -⟩ := h
 exact lt_of_block h1
theorem OM.obj {w : World} {o : Nat} {x : Int} (h : OM w o x) : ∃ es clock, w.heap[o]? = some (.map es clock) := by
 obtain ⟨es, clock, h1, -⟩ := h
 exact ⟨es, clock, h1⟩
end Go.Proofs.YtkeeofhjdffhbaaGreatDoor
namespace Go.Proofs.YtkeeofhjdffhbaaGreatDoor
open Go.RowKit Go.Dr
theorem but_turned {w w' : World} {o : Nat} (h : w.mapTurned w' o) : But (fun k => k = o) w w' := But.grown h.grown rfl
set_option maxRecDepth 100000 in
set_option maxHeartbeats 4000000 in
/-- so many bytes may come -/
theorem Spend_yes {p o : Nat} {all beg x n : Int} (w : World) (hop : o ≠ p) (h2 : w.cell? ⟨p, 2, none⟩ = some (.int .i64 all)) (f2 : w.frozen? ⟨p, 2, none⟩ = false) (h3 : w.cell? ⟨p, 3, none⟩ = some (.int .i64 beg)) (h4 : w.cell? ⟨p, 4, none⟩ = some (.map (some o))) (h : OM w o x)
  (hn : 0 ≤ n) (ha : n ≤ all) (hb : n = 0 ∨ n ≤ beg + x) (ha2 : all < 4294967296) (hb1 : 0 ≤ beg) (hb2 : beg < 4294967296) (hx1 : -4294967296 < x) (hx2 : x < 4294967296) :
  Calls Tryz.prog 86 #[.pointer (some ⟨p, 2, none⟩), .int .i64 1, .int .i64 n] w fun e w' => e = .returned (.bool true) ∧ OM w' o (x - n) ∧ (w.setCell ⟨p, 2, none⟩ (.int .i64 (all - n))).drew.mapTurned w' o := by
 have hg1 := (h.block (w' := w.drew) rfl).get
 have e3 : (w.setCell ⟨p, 2, none⟩ (.int .i64 (all - n))).drew.heap[o]? = w.heap[o]? := Below.heap_setCell _ _ _ _ hop
 have hg2 := (h.block e3).get
 obtain ⟨w2, hp, h2', ht⟩ := (h.block e3).put (x - n)
 have hq : ¬ ((if 0 < (if beg + x < all then beg + x else all) then (if beg + x < all then beg + x else all) else 0) < n) := by split <;> split <;> omega
 clear hb
 go_enter Tryz.func86, Tryz.ntmps86
 go_wp2
 go_region
 go_wp2
 all_goals (go_ret;exact ⟨rfl, h2', ht⟩)
set_option maxRecDepth 100000 in
set_option maxHeartbeats 4000000 in
/-- so many bytes may not come -/
theorem Spend_no {p o : Nat} {all beg x n : Int} (w : World) (h2 : w.cell? ⟨p, 2, none⟩ = some (.int .i64 all)) (h3 : w.cell? ⟨p, 3, none⟩ = some (.int .i64 beg)) (h4 : w.cell? ⟨p, 4, none⟩ = some (.map (some o))) (h : OM w o x)
  (hn : 0 < n) (ha : all < n ∨ beg + x < n) (hb1 : 0 ≤ beg) (hb2 : beg < 4294967296) (hx1 : -4294967296 < x) (hx2 : x < 4294967296) :
  Calls Tryz.prog 86 #[.pointer (some ⟨p, 2, none⟩), .int .i64 1, .int .i64 n] w fun e w' => e = .returned (.bool false) ∧ Below w.heap.size w w' := by
 have hg1 := (h.block (w' := w.drew) rfl).get
 have hq : (if 0 < (if beg + x < all then beg + x else all) then (if beg + x < all then beg + x else all) else 0) < n := by split <;> split <;> omega
 go_enter Tryz.func86, Tryz.ntmps86
 go_wp2
 go_region
 go_wp2
 all_goals (go_ret;exact ⟨rfl, (Below.refl _ _).drew⟩)
set_option maxRecDepth 100000 in
set_option maxHeartbeats 4000000 in
/-- the beginning of windows is set -/
theorem Set_win {p : Nat} {xs : Array Value} {n : Int} {u : Value} (w : World) (hP : Blk w p 97 xs) (h3 : xs[3]? = some u) :
  Calls Tryz.prog 79 #[Ptr p, .agg #[.int .i64 4, .int .i64 n]] w fun e w' => e = .returned (.tuple #[]) ∧ Blk w' p 97 (xs.setIfInBounds 3 (.int .i64 n)) ∧ But (fun k => k = p) w w' := by
 have hF : Blk (w.alloc (.cells #[.int .i64 4, .int .i64 n] 31)) w.heap.size 31 #[.int .i64 4, .int .i64 n] := Blk.new _ _ _
 have g0 : (w.alloc (.cells #[.int .i64 4, .int .i64 n] 31)).cell? ⟨w.heap.size, 0, none⟩ = some (.int .i64 4) := hF.cell 0
 have g1 : (w.alloc (.cells #[.int .i64 4, .int .i64 n] 31)).cell? ⟨w.heap.size, 1, none⟩ = some (.int .i64 n) := hF.cell 1
 have hP1 := hP.alloc (.cells #[.int .i64 4, .int .i64 n] 31)
 have y3 : (w.alloc (.cells #[.int .i64 4, .int .i64 n] 31)).cell? ⟨p, 3, none⟩ = some u := (hP1.cell 3).trans h3
 have f3 := hP1.free 3
 go_enter Tryz.func79, Tryz.ntmps79
 go_wp2
 go_end0
 exact ⟨rfl, hP1.set 3 _, ((But.refl (fun k => k = p) w).alloc _).setCell (p := ⟨p, 3, none⟩) (.inl rfl) _⟩
end Go.Proofs.YtkeeofhjdffhbaaGreatDoor
