/- Parts of the proof of bk_root: the texts Enc1 Enc2 Enc4 Enc5 Enc6. -/
import Derived.Great.BuildSlice
import Derived.Great.Walk
import Derived.Test.YtcodgfmombehoaaGreatDoorK13
set_option linter.unusedSimpArgs false
set_option linter.unusedVariables false
set_option linter.unnecessarySimpa false
set_option maxRecDepth 100000
set_option maxHeartbeats 64000000
namespace Go.Proofs.YtcodgfmombehoaaGreatDoor
open Go.RowKit Go.Dr
def refC : Array Value := (statL.flatMap fun p => [S p.1, S p.2, .bool false]).toArray
def refParts : Array (Nat × Operand) := ((List.range 61).map fun i => (i, Operand.tmp (i + 1))).toArray
theorem eval_put {a : Act} {t : Tmp} {v : Value} (h : t < a.tmps.size) : (a.put (some t) v).eval (.tmp t) = v := by
 simp [Act.put, Act.eval, h]
theorem rStatic (w : World) : Calls Tryz.prog 75 #[] w fun e w' => e = .returned (.slice (some ⟨w.heap.size, 0, none⟩) 61 61) ∧ w' = w.alloc (.cells refC 45) := by
 obtain ⟨ie, hie, hz, hsz, -⟩ := info_parts (P := Tryz.prog) (e := 45) (z := .agg #[S [], S [], .bool false]) (size := 3) (bytes := 40) (by kernel_rfl);go_enter Tryz.func75, Tryz.ntmps75
 go_upto_region 1 with fail;refine wp_region_lit ?_;refine wpList_builds (fun a => (Instr.fill (fun i => some (i * 3, 3)) ((Array.range (61 * 3)).map ((#[S [], S [], .bool false] : Array Value)[· % 3]!)) (refParts.map fun (i, x) => (i, a.eval x)).toList, a.tmps.size, a.defers)) (some refC, 63, []) 61 _ _ (by kernel_rfl) ?_;intro a' ha;simp only [Prod.mk.injEq] at ha;obtain ⟨k1, k2, k3⟩ := ha;have ev : (a'.put (some 62) (.slice (some ⟨w.heap.size, 0, none⟩) 61 61)).eval (.tmp 62) = .slice (some ⟨w.heap.size, 0, none⟩) 61 61 := eval_put (by rw [k2];decide);obtain ⟨a2, ea2⟩ : ∃ a2, a2 = a'.put (some 62) (.slice (some ⟨w.heap.size, 0, none⟩) 61 61) := ⟨_, rfl⟩;have s2 : a2.tmps.size = 63 := (by rw [ea2];simp [Act.put, k2]);have d2 : a2.defers = [] := (by rw [ea2];exact k3);rw [← ea2] at ev;refine Go.wpList_buildSlice rfl 46 45 61 refParts (by kernel_rfl) refC ie _ Tryz.underlying46 hie hz (by rw [hsz];decide) (by rw [hsz];decide) (by rw [hsz];exact k1) ?_;rw [← ea2];refine Great.wpList_readTo rfl (some 0) rfl (.slice (some ⟨w.heap.size, 0, none⟩) 61 61) (by simp [execOp, ev]) ?_;refine wpList_nil ?_;obtain ⟨a3, ea3⟩ : ∃ a3, a3 = a2.put (some 0) (.slice (some ⟨w.heap.size, 0, none⟩) 61 61) := ⟨_, rfl⟩;have t3 : a3.tmps.getD 0 undef = .slice (some ⟨w.heap.size, 0, none⟩) 61 61 := (by rw [ea3];simp [Act.put, s2]);have d3 : a3.defers = [] := (by rw [ea3];exact d2);rw [← ea3];clear ea3 ea2 ev s2 d2 k1 k2 k3;go_wp2;refine bodyPost_ret (results_tmp Tryz.results75 _ _ _) d3 ⟨by rw [t3], rfl⟩
open Go.RowKit Go.Dr
theorem own_cell {w : World} {base : Nat} {e : TypeId} {size n c : Nat} {a : Option Addr} {xs : List Value} (h : w.ownsRow base e size (.slice a n c) n xs) (hn : 0 < n) : ∃ g, a = some ⟨g, 0, none⟩ ∧ ∀ (j : Nat) (u : Value), xs[j]? = some u → w.cell? ⟨g, j, none⟩ = some u := by
 rcases h.2 with ⟨-, h0⟩ | ⟨g, cap, cur, hv, -, hg, -, -, -, ht⟩
 ·omega
 ·simp only [Value.slice.injEq] at hv
  refine ⟨g, hv.1, fun j u hu => ?_⟩;have hj : j < n * size := (by rw [← h.1];exact (List.getElem?_eq_some_iff.1 hu).1);simp only [World.cell?, hg];rw [← ht, List.getElem?_take_of_lt hj] at hu;simpa using hu
end Go.Proofs.YtcodgfmombehoaaGreatDoor
namespace Go.Dr
def findR (n v : Bytes) : List F → Nat → Nat → Nat × Bool
 | [], _, near => (near, false)
 | r :: t, i, near => if r.n == n then (if r.v == v then (i + 1, true) else findR n v t (i + 1) (if near = 0 then i + 1 else near)) else findR n v t (i + 1) near
theorem findR_skip (n v : Bytes) (l : List F) (k near : Nat) (h : k < l.length) (h1 : (l[k].n == n) = false) : findR n v (l.drop k) k near = findR n v (l.drop (k + 1)) (k + 1) near := by
 rw [List.drop_eq_getElem_cons h, findR, h1];rfl
theorem findR_hit (n v : Bytes) (l : List F) (k near : Nat) (h : k < l.length) (h1 : (l[k].n == n) = true) (h2 : (l[k].v == v) = true) : findR n v (l.drop k) k near = (k + 1, true) := by
 rw [List.drop_eq_getElem_cons h, findR, h1, h2];rfl
theorem findR_near (n v : Bytes) (l : List F) (k near : Nat) (h : k < l.length) (h1 : (l[k].n == n) = true) (h2 : (l[k].v == v) = false) : findR n v (l.drop k) k near = findR n v (l.drop (k + 1)) (k + 1) (if near = 0 then k + 1 else near) := by
 rw [List.drop_eq_getElem_cons h, findR, h1, h2];rfl
theorem findR_end (n v : Bytes) (l : List F) (k near : Nat) (h : l.length ≤ k) : findR n v (l.drop k) k near = (near, false) := by
 rw [List.drop_eq_nil_of_le h, findR]
end Go.Dr
namespace Go.Proofs.YtcodgfmombehoaaGreatDoor
open Go.RowKit Go.Dr
theorem rPutInt_small (fl bits n : Nat) (hb : bits ≤ 7) (hn : n + 1 < 2 ^ bits) (hf : fl + n < 256) (w : World) :
  Calls Tryz.prog 59 #[.int .u8 (fl : Int), .int .i64 (bits : Int), .int .u32 (n : Int)] w fun e w' => ∃ v, e = .returned v ∧ w'.ownsRow w.heap.size 5 1 v 1 [.int .u8 ((fl + n : Nat) : Int)] ∧ Below w.heap.size w w' := by
 have HP := Lib.hid (show ∀ k, k ≤ bits → 1 ≤ 2 ^ k ∧ 2 ^ k ≤ 128 from fun k hk => ⟨Nat.one_le_two_pow, Nat.le_trans (Nat.pow_le_pow_right (by decide) (Nat.le_trans hk hb)) (by decide)⟩);have HN := Lib.hid hn;clear hn;go_enter Tryz.func59, Tryz.ntmps59
 go_wp2
 go_loop [7, 8] (fun full i => ∃ k m : Nat, k ≤ bits ∧ Hid (m = 2 ^ k) ∧ 1 ≤ m ∧ m ≤ 128 ∧ i = .int .i64 (k : Int) ∧ full = .int .u32 (m : Int)) (fun _ i => bits - (intOf i).toNat)
 case atStart => exact ⟨0, 1, Nat.zero_le _, rfl, by decide, by decide, rfl, rfl⟩
 case round =>
  obtain ⟨k, m, hk, HM, hm1, hm2, rfl, rfl⟩ := hrel;by_cases hlt : k < bits
  ·obtain ⟨h1, h2⟩ := HP.out (k + 1) hlt
   have HM2 : Hid (m * 2 = 2 ^ (k + 1)) := (by rw [HM.out, Nat.pow_succ];rfl);have h3 : m * 2 ≤ 128 := (by rw [HM2.out];exact h2);clear h1 h2;go_wp2;go_round
   case rel => exact ⟨k + 1, m * 2, hlt, HM2, by omega, h3, by go_num, by go_num⟩
   case measure => simp [intOf];omega
  ·obtain rfl : k = bits := by omega
   have hn : n + 1 < m := (by rw [HM.out];exact HN.out);have hs : (n : Int) < (m : Int) - 1 := (by omega);go_wp2;go_ret;exact ⟨_, rfl, World.ownsRow_lit (base := w.heap.size) (e := 5) (size := 1) w #[.int .u8 ((fl + n : Nat) : Int)] 1 (Nat.le_refl _) (by decide) rfl, (Below.refl _ _).alloc (Nat.le_refl _) _⟩
end Go.Proofs.YtcodgfmombehoaaGreatDoor
namespace Go.Dr
def lenL : List Nat := [13, 23, 28, 28, 28, 28, 28, 28, 28, 24, 30, 28, 28, 30, 28, 28, 28, 28, 28, 28, 28, 28, 30, 28, 28, 28, 28, 28, 28, 28, 28, 28, 6, 10, 10, 12, 13, 6, 8, 11, 10, 10, 8, 11, 8, 6, 6, 6, 5, 5, 5, 6, 6, 6, 6, 6, 6, 6, 7, 8, 15, 6, 12, 10, 13, 6, 7, 7, 7, 7, 7, 7, 7, 7, 7, 7, 7, 7, 7, 7, 7, 7, 7, 7, 7, 7, 7, 7, 8, 7, 8, 13, 19, 13, 14, 6, 15, 5, 6, 5, 6, 5, 6, 6, 6, 5, 7, 7, 6, 6, 6, 5, 6, 7, 6, 5, 5, 6, 7, 7, 7, 7, 7, 15, 11, 14, 13, 28, 20, 22, 20, 20, 22, 22, 22, 23, 22, 23, 23, 23, 23, 23, 24, 23, 24, 24, 22, 23, 24, 23, 23, 23, 23, 21, 22, 23, 22, 23, 23, 24, 22, 21, 20, 22, 22, 23, 23, 21, 23, 22, 22, 24, 21, 22, 23, 23, 21, 21, 22, 21, 23, 22, 23, 23, 20, 22, 22, 22, 23, 22, 22, 23, 26, 26, 20, 19, 22, 23, 22, 25, 26, 26, 26, 27, 27, 26, 24, 25, 19, 21, 26, 27, 27, 26, 27, 24, 21, 21, 26, 26, 28, 27, 27, 27, 20, 24, 20, 21, 22, 21, 21, 23, 22, 22, 25, 25, 24, 24, 26, 23, 26, 27, 26, 26, 27, 27, 27, 27, 27, 28, 27, 27, 27, 27, 27, 26, 30]
def lenN (c : UInt8) : Nat := lenL.getD c.toNat 0
theorem lenL_small : ∀ n ∈ lenL, n ≤ 30 := by decide +kernel
theorem lenL_length : lenL.length = 257 := by decide +kernel
theorem getD_at (l : List Nat) (k : Nat) (h : k < l.length) : l.getD k 0 = l[k] := by simp [List.getD, List.getElem?_eq_getElem h]
theorem lenN_le (c : UInt8) : lenN c ≤ 30 := by
 have hc : c.toNat < lenL.length := (by rw [lenL_length];have := UInt8.toNat_lt c;omega);unfold lenN;rw [getD_at _ _ hc];exact lenL_small _ (List.getElem_mem _)
def bitsF (l : Bytes) : Nat := (l.map lenN).sum
def huffN (l : Bytes) : Nat := (bitsF l + 7) / 8
theorem bitsF_snoc (l : Bytes) (k : Nat) (h : k < l.length) : bitsF (l.take (k + 1)) = bitsF (l.take k) + lenN l[k] := by
 rw [take_snoc l k h];simp only [bitsF, List.map_append, List.sum_append, List.map_cons, List.map_nil, List.sum_cons, List.sum_nil];rfl
theorem bitsF_le (l : Bytes) : bitsF l ≤ 30 * l.length := by
 induction l with
 | nil => simp [bitsF]
 | cons c l ih => have := lenN_le c;simp only [bitsF, List.map_cons, List.sum_cons, List.length_cons] at ih ⊢;omega
end Go.Dr
namespace Go.Proofs.YtcodgfmombehoaaGreatDoor
open Go.RowKit Go.Dr
theorem rLengths (w : World) : Calls Tryz.prog 129 #[] w fun e w' => e = .returned (.slice (some ⟨w.heap.size, 0, none⟩) 257 257) ∧ w' = w.alloc (.cells ((lenL.map fun n : Nat => (n : Int)).map (Value.int .i64)).toArray 3) := by
 go_enter Tryz.func129, Tryz.ntmps129
 go_upto_region 1 with fail;refine wp_region_lit ?_;refine Go.wpList_buildFlat rfl 76 3 257 _ rfl .i64 (lenL.map fun n : Nat => (n : Int)) Tryz.underlying76 (by kernel_rfl) (by kernel_rfl) (by rw [List.length_map, lenL_length]) (by decide) (by decide) (by kernel_rfl) ?_;generalize hz : (lenL.map fun n : Nat => (n : Int)).map (Value.int .i64) = zs;have HZ := Lib.hid hz;clear hz;go_wp2;go_ret;exact ⟨rfl, by rw [HZ.out]⟩
theorem len_cell {w W : World} (hb : Below (w.heap.size + 1) (w.alloc (.cells ((lenL.map fun n : Nat => (n : Int)).map (Value.int .i64)).toArray 3)) W) (c : UInt8) : W.cell? ⟨w.heap.size, c.toNat, none⟩ = some (.int .i64 (lenN c : Nat)) := by
 have hc : c.toNat < lenL.length := (by rw [lenL_length];have := UInt8.toNat_lt c;omega);rw [hb.cell (p := ⟨w.heap.size, c.toNat, none⟩) (by simp)];have e : (w.alloc (.cells ((lenL.map fun n : Nat => (n : Int)).map (Value.int .i64)).toArray 3)).heap[w.heap.size]? = some (.cells ((lenL.map fun n : Nat => (n : Int)).map (Value.int .i64)).toArray 3) := obj_new w _ _ rfl;simp only [World.cell?, e];simp [List.getElem?_eq_getElem hc, lenN, getD_at _ _ hc]
theorem rSize_any (l : Bytes) (hl : l.length ≤ 1048576) (w : World) : Calls Tryz.prog 96 #[S l] w fun e w' => e = .returned (.int .i64 (huffN l : Nat)) ∧ Below w.heap.size w w' := by
 have hm : l.length ≤ 9223372036854775807 := (by omega);have hbw : Below w.heap.size w (w.alloc (.cells ((lenL.map fun n : Nat => (n : Int)).map (Value.int .i64)).toArray 3)) := (Below.refl _ _).alloc (Nat.le_refl _) _;have hlc := len_cell (w := w) (Below.refl _ _);have HB := Lib.hid (bitsF_le l);go_enter Tryz.func96, Tryz.ntmps96
 go_wp2_with (go_at_call 129;(with_reducible refine (rLengths _).mono ?_);rintro e w1 ⟨rfl, hw1⟩;rw [← hw1] at hbw hlc;clear hw1)
 go_loop [4, 5] (fun n i => ∃ k : Nat, k ≤ l.length ∧ i = .int .i64 (k : Int) ∧ n = .int .i64 (bitsF (l.take k) : Nat) ∧ bitsF (l.take k) ≤ 30 * k) (fun _ i => l.length - (intOf i).toNat)
 case atStart => exact ⟨0, Nat.zero_le _, rfl, rfl, by simp [bitsF]⟩
 case round =>
  obtain ⟨k, hk, rfl, rfl, hbk⟩ := hrel;by_cases hlt : k < l.length
  ·have HS := Lib.hid (bitsF_snoc l k hlt)
   have h30 := lenN_le l[k];have hc := hlc l[k];have hcn := UInt8.toNat_lt l[k];generalize bitsF (l.take k) = n at *;go_wp2;go_round
   case rel => exact ⟨k + 1, hlt, by go_num, by rw [HS.out];go_num, by rw [HS.out];omega⟩
   case measure => simp [intOf];omega
  ·obtain rfl : k = l.length := by omega
   rw [List.take_length] at *;have hz : huffN l = (bitsF l + 7) / 8 := rfl;have HZ := Lib.hid hz;clear hz;generalize bitsF l = n at *;go_wp2
   go_loop [4] (fun x => ∃ m : Nat, x = .int .i64 (m : Int) ∧ n ≤ m ∧ m < n + 8 ∧ (m + 7) / 8 = (n + 7) / 8) (fun x => (8 - (intOf x).toNat % 8) % 8)
   case atStart => exact ⟨n, rfl, Nat.le_refl _, by omega, rfl⟩
   case round =>
    obtain ⟨m, rfl, h1, h2, h3⟩ := hrel;by_cases h8 : m % 8 = 0
    ·have h9 : ((m : Int) % 8 != 0) = false := by simp;omega
     have h10 : m / 8 = huffN l := (by rw [HZ.out, ← h3];omega);have H10 := Lib.hid h10;clear h8 h10;go_wp2;go_ret;exact ⟨ret_int (by rw [← H10.out];omega), hbw⟩
    ·have h9 : ((m : Int) % 8 != 0) = true := by simp;omega
     go_wp2;go_round
     case rel => exact ⟨m + 1, by go_num, by omega, by omega, by omega⟩
     case measure => simp [intOf];omega
theorem rPutText_raw (l : Bytes) (hl : l.length < 127) (hh : l.length ≤ huffN l) (w : World) : Calls Tryz.prog 61 #[S l] w fun e w' => ∃ v, e = .returned v ∧ w'.ownsRow w.heap.size 5 1 v (1 + l.length) ((UInt8.ofNat l.length :: l).map B8) ∧ Below w.heap.size w w' := by
 have hd : decide (huffN l < l.length) = false := (by simp;omega);have hq : IntKind.u32.wrap (l.length : Int) = (l.length : Int) := (by simp [IntKind.wrap, IntKind.signed, IntKind.bits];omega);have hP := rPutInt_small 0 7 l.length (by decide) (by show l.length + 1 < 128;omega) (by omega);have hu : ((0 + l.length : Nat) : Int) = ((UInt8.ofNat l.length).toNat : Int) := (by simp;omega);have HU := Lib.hid hu;clear hu;go_enter Tryz.func61, Tryz.ntmps61
 go_wp2_with first
  | (go_at_call 96;(with_reducible refine (rSize_any l (by omega) _).mono ?_);rintro e w1 ⟨rfl, hb1⟩)
  | (go_at_call 59;go_must (refine (hP _).mono ?_);rintro e w2 ⟨v2, rfl, hr2, hb2⟩;rw [HU.out] at hr2;obtain ⟨a2, c2, rfl⟩ := own_form hr2)
  | (at_builtin;go_must (refine wpList_appStr rfl _ _ 39 9 rfl w.heap.size 5 Tryz.underlying39 Tryz.underlying9 (by kernel_rfl) _ _ _ rfl (own_base hr2 hb1.size) l rfl (by omega) (by have := hb1.size;have := hb2.size;omega) ?_);intro a3 c3 w3 hr3 hb3)
 go_ret;refine ⟨_, rfl, hr3, ?_⟩;exact (hb1.trans (hb2.mono hb1.size)).trans hb3
open Go.RowKit Go.Dr
def statF : List F := statL.map fun p => ⟨p.1, p.2, false⟩
theorem statF_length : statF.length = 61 := by decide +kernel
theorem statF_cells : fcells statF = refC.toList := by kernel_rfl
theorem refFind_all {eb : Nat} {rv : Value} (rows all : List F) (HA : Hid (all = statF ++ rows)) (f : F) (w : World) (h4 : w.cell? ⟨eb, 4, none⟩ = some rv) (hR : Fs w.heap.size w rv rows) (hrl : rows.length ≤ 1000000) (heb : eb < w.heap.size) :
  Calls Tryz.prog 60 #[.pointer (some ⟨eb, 3, none⟩), .agg #[S f.n, S f.v, .bool f.m]] w fun e w' => e = .returned (.tuple #[.int .i64 ((findR f.n f.v all 0 0).1 : Nat), .bool (findR f.n f.v all 0 0).2]) ∧ Below w.heap.size w w' := by
 obtain ⟨W, eW⟩ : ∃ W, W = w.alloc (.cells #[S f.n, S f.v, .bool f.m] 45) := ⟨_, rfl⟩;have hb : Below w.heap.size w W := (by rw [eW];exact (Below.refl _ _).alloc (Nat.le_refl _) _);have hF : Blk W w.heap.size 45 #[S f.n, S f.v, .bool f.m] := (by rw [eW];exact Blk.new _ _ _);have hWl := hF.lt;obtain ⟨ra, rc, rfl, -⟩ := hR.form;have x4 : W.cell? ⟨eb, 4, none⟩ = some (.slice ra rows.length rc) := (by rw [hb.cell (p := ⟨eb, 4, none⟩) heb];exact h4);have x4a : ∀ ob, (W.alloc ob).cell? ⟨eb, 4, none⟩ = some (.slice ra rows.length rc) := fun ob => by rw [((Below.refl W.heap.size W).alloc (Nat.le_refl _) ob).cell (p := ⟨eb, 4, none⟩) (by show eb < _;omega)];exact x4
 have hO : (W.drew.alloc (.cells refC 45)).ownsRow W.heap.size 45 3 (.slice (some ⟨W.drew.heap.size, 0, none⟩) 61 61) 61 refC.toList := World.ownsRow_lit (base := W.heap.size) (e := 45) (size := 3) W.drew refC 61 (Nat.le_refl _) (by decide) (by kernel_rfl);have hS : Fs W.heap.size (W.drew.alloc (.cells refC 45)) (.slice ra rows.length rc) rows := ((hR.below hb).mono hb.size).below ((Below.refl _ _).drew.alloc (Nat.le_refl _) _);have hN : 61 + rows.length ≤ 9223372036854775807 := (by omega);go_enter Tryz.func60, Tryz.ntmps60
 go_upto_region 1 with fail;rw [← eW];clear eW
 go_cut [6] (fun s6 wx => ∃ a c, s6 = .slice a (61 + rows.length) c ∧ Fs wx.heap.size wx (.slice a (61 + rows.length) c) all ∧ Blk wx w.heap.size 45 #[S f.n, S f.v, .bool f.m] ∧ Below w.heap.size w wx)
 case first =>
  go_region_law (first
   | (go_simp;go_at_call 75;(with_reducible refine (rStatic _).mono ?_);rintro e w2 ⟨rfl, hw2⟩)
   | (refine step_of ?_ (by rfl);refine wp_appG _ _ 46 rfl W.heap.size 45 (.agg #[.string ByteArray.empty, .string ByteArray.empty, .bool false]) 3 40 Tryz.underlying46 (by kernel_rfl) rfl (by decide) _ _ _ rfl hO _ _ _ (fcells rows) rfl hS (fcells_one _) (by unfold maxLen;omega) (by omega) (by simp) ?_;intro a3 c3 w3 hown3 hb3 hg3))
  all_goals (
   go_wp2;go_meet
   refine ⟨a3, c3, rfl, ?_, Blk.below (hF.alloc _).drew hb3 hWl, (hb.alloc hb.size _).drew.trans (hb3.mono hb.size)⟩;have h1 := Rd.own hown3;unfold Fs;rw [HA.out, fcells_append, statF_cells, List.length_append, statF_length]
   exact h1)
 case rest =>
  obtain ⟨a, c, rfl, hL, hB, hw⟩ := hcut;clear hS hO x4 x4a hF hb hWl h4 hR;have hlen : all.length = 61 + rows.length := (by rw [HA.out, List.length_append, statF_length]);rw [← hlen] at hL ⊢;rw [← hlen] at hN;clear hlen;obtain ⟨w3, rfl⟩ : ∃ w3, w3 = wc := ⟨_, rfl⟩;go_wp2
  go_loopw [7, 8] (fun near i wr => ∃ k m : Nat, k ≤ all.length ∧ i = .int .i64 (k : Int) ∧ near = .int .i64 (m : Int) ∧ m ≤ k ∧ Hid (findR f.n f.v all 0 0 = findR f.n f.v (all.drop k) k m) ∧ Below w3.heap.size w3 wr) (fun _ i _ => all.length - (intOf i).toNat)
  case atStart => exact ⟨0, 0, Nat.zero_le _, rfl, rfl, Nat.le_refl _, rfl, Below.refl _ _⟩
  case round =>
   obtain ⟨k, m, hk, rfl, rfl, hm, HI, hbr⟩ := hrel;have hBr := hB.on hbr;have b0 : wr.cell? ⟨w.heap.size, 0, none⟩ = some (S f.n) := hBr.cell 0;have b1 : wr.cell? ⟨w.heap.size, 1, none⟩ = some (S f.v) := hBr.cell 1;by_cases hlt : k < all.length
   ·obtain ⟨g, off, rfl, hg, e0, e1, e2⟩ := (hL.below hbr).at k hlt
    cases h1 : (all[k].n == f.n) with
    | true =>
     have h1n : (all[k].n != f.n) = false := (by rw [bne, h1];rfl)
     cases h2 : (all[k].v == f.v) with
     | true =>
      have HE := Lib.hid (findR_hit f.n f.v all k m hlt h1 h2);go_wp2
      go_region
      go_wp2
      go_region
      go_wp2;go_ret2;exact ⟨by rw [HI.out, HE.out];rfl, (hw.trans (hbr.mono hw.size)).drew.drew⟩
     | false =>
      have HE := Lib.hid (findR_near f.n f.v all k m hlt h1 h2);by_cases hm0 : m = 0
      ·subst hm0
       go_wp2
       go_region
       go_wp2
       go_region
       go_wp2
       go_roundw
       case rel => exact ⟨k + 1, k + 1, hlt, by go_num, by go_num, Nat.le_refl _, Lib.hid (by rw [HI.out];exact HE.out), hbr.drew.drew⟩
       case measure => simp [intOf];omega
      ·have hm1 : ((m : Int) == 0) = false := by simp;omega
       have HM := Lib.hid hm0;clear hm0;go_wp2
       go_region
       go_wp2
       go_region
       go_wp2
       go_roundw
       case rel => exact ⟨k + 1, m, hlt, by go_num, rfl, by omega, Lib.hid (by rw [HI.out, HE.out, if_neg HM.out]), hbr.drew.drew⟩
       case measure => simp [intOf];omega
    | false =>
     have h1n : (all[k].n != f.n) = true := (by rw [bne, h1];rfl);have HE := Lib.hid (findR_skip f.n f.v all k m hlt h1);go_wp2
     go_region
     go_wp2
     go_roundw
     case rel => exact ⟨k + 1, m, hlt, by go_num, rfl, by omega, Lib.hid (by rw [HI.out, HE.out]), hbr.drew⟩
     case measure => simp [intOf];omega
   ·have HE := Lib.hid (findR_end f.n f.v all k m (by omega))
    go_wp2;go_ret2;exact ⟨by rw [HI.out, HE.out];rfl, hw.trans (hbr.mono hw.size)⟩
theorem refFind_any {eb : Nat} {rv : Value} (rows : List F) (f : F) (w : World) (h4 : w.cell? ⟨eb, 4, none⟩ = some rv) (hR : Fs w.heap.size w rv rows) (hrl : rows.length ≤ 1000000) (heb : eb < w.heap.size) :
  Calls Tryz.prog 60 #[.pointer (some ⟨eb, 3, none⟩), .agg #[S f.n, S f.v, .bool f.m]] w fun e w' => e = .returned (.tuple #[.int .i64 ((findR f.n f.v (statF ++ rows) 0 0).1 : Nat), .bool (findR f.n f.v (statF ++ rows) 0 0).2]) ∧ Below w.heap.size w w' :=
 refFind_all rows _ (Lib.hid rfl) f w h4 hR hrl heb
end Go.Proofs.YtcodgfmombehoaaGreatDoor
