/- Parts of the proof of wr_root: the texts Enc1 Enc4 Enc5 Enc6 Enc7 Enc8 Law22a. -/
import Derived.Great.BuildSlice
import Derived.Great.Walk
import Derived.Lib.SlBytesConst
import Derived.Test.YtkeeofhjdffhbaaGreatDoorW21
set_option linter.unusedSimpArgs false
set_option linter.unusedVariables false
set_option linter.unnecessarySimpa false
namespace Go.Proofs.YtkeeofhjdffhbaaGreatDoor
open Go.RowKit Go.Dr
def refC : Array Value := (statL.flatMap fun p => [S p.1, S p.2, .bool false]).toArray
def refParts : Array (Nat × Operand) := ((List.range 61).map fun i => (i, Operand.tmp (i + 1))).toArray
theorem eval_put {a : Act} {t : Tmp} {v : Value} (h : t < a.tmps.size) : (a.put (some t) v).eval (.tmp t) = v := by
 simp [Act.put, Act.eval, h]
set_option maxRecDepth 100000 in
set_option maxHeartbeats 4000000 in
theorem rStatic (w : World) : Calls Tryz.prog 81 #[] w fun e w' => e = .returned (.slice (some ⟨w.heap.size, 0, none⟩) 61 61) ∧ w' = w.alloc (.cells refC 41) := by
 obtain ⟨ie, hie, hz, hsz, -⟩ := info_parts (P := Tryz.prog) (e := 41) (z := .agg #[S [], S [], .bool false]) (size := 3) (bytes := 40) (by kernel_rfl)
 go_enter Tryz.func81, Tryz.ntmps81
 go_upto_region 1 with fail
 refine wp_region_lit ?_
 refine wpList_builds (fun a => (Instr.fill (fun i => some (i * 3, 3)) ((Array.range (61 * 3)).map ((#[S [], S [], .bool false] : Array Value)[· % 3]!)) (refParts.map fun (i, x) => (i, a.eval x)).toList, a.tmps.size, a.defers)) (some refC, 63, []) 61 _ _ (by kernel_rfl) ?_
 intro a' ha
 simp only [Prod.mk.injEq] at ha
 obtain ⟨k1, k2, k3⟩ := ha
 have ev : (a'.put (some 62) (.slice (some ⟨w.heap.size, 0, none⟩) 61 61)).eval (.tmp 62) = .slice (some ⟨w.heap.size, 0, none⟩) 61 61 := eval_put (by rw [k2];decide)
 obtain ⟨a2, ea2⟩ : ∃ a2, a2 = a'.put (some 62) (.slice (some ⟨w.heap.size, 0, none⟩) 61 61) := ⟨_, rfl⟩
 have s2 : a2.tmps.size = 63 := by rw [ea2];simp [Act.put, k2]
 have d2 : a2.defers = [] := by rw [ea2];exact k3
 rw [← ea2] at ev
 refine Go.wpList_buildSlice rfl 42 41 61 refParts (by kernel_rfl) refC ie _ Tryz.underlying42 hie hz (by rw [hsz];decide) (by rw [hsz];decide) (by rw [hsz];exact k1) ?_
 rw [← ea2]
 refine Great.wpList_readTo rfl (some 0) rfl (.slice (some ⟨w.heap.size, 0, none⟩) 61 61) (by simp [execOp, ev]) ?_
 refine wpList_nil ?_
 obtain ⟨a3, ea3⟩ : ∃ a3, a3 = a2.put (some 0) (.slice (some ⟨w.heap.size, 0, none⟩) 61 61) := ⟨_, rfl⟩
 have t3 : a3.tmps.getD 0 undef = .slice (some ⟨w.heap.size, 0, none⟩) 61 61 := by rw [ea3];simp [Act.put, s2]
 have d3 : a3.defers = [] := by rw [ea3];exact d2
 rw [← ea3]
 clear ea3 ea2 ev s2 d2 k1 k2 k3
 go_wp2
 refine bodyPost_ret (results_tmp Tryz.results81 _ _ _) d3 ⟨by rw [t3], rfl⟩
end Go.Proofs.YtkeeofhjdffhbaaGreatDoor
namespace Go.Dr
/-- the search through rows: from the row behind the first i;the first row of the name so far -/
def findR (n v : Bytes) : List F → Nat → Nat → Nat × Bool
 | [], _, near => (near, false)
 | r :: t, i, near => if r.n == n then (if r.v == v then (i + 1, true) else findR n v t (i + 1) (if near = 0 then i + 1 else near)) else findR n v t (i + 1) near
theorem findR_skip (n v : Bytes) (l : List F) (k near : Nat) (h : k < l.length) (h1 : (l[k].n == n) = false) : findR n v (l.drop k) k near = findR n v (l.drop (k + 1)) (k + 1) near := by
 rw [List.drop_eq_getElem_cons h, findR, h1];rfl
theorem findR_hit (n v : Bytes) (l : List F) (k near : Nat) (h : k < l.length) (h1 : (l[k].n == n) = true) (h2 : (l[k].v == v) = true) : findR n v (l.drop k) k near = (k + 1, true) := by
 rw [List.drop_eq_getElem_cons h, findR, h1, h2];rfl
theorem findR_near (n v : Bytes) (l : List F) (k near : Nat) (h : k < l.length) (h1 : (l[k].n == n) = true) (h2 : (l[k].v == v) = false) : findR n v (l.drop k) k near = findR n v (l.drop (k + 1)) (k + 1) (if near = 0 then k + 1 else near) := by
 rw [List.drop_eq_getElem_cons h, findR, h1, h2];rfl
theorem findR_end (n v : Bytes) (l : List F) (k near : Nat) (h : l.length ≤ k) : findR n v (l.drop k) k near = (near, false) := by
 rw [List.drop_eq_nil_of_le h, findR]
end Go.Dr
namespace Go.Proofs.YtkeeofhjdffhbaaGreatDoor
open Go.RowKit Go.Dr
set_option maxRecDepth 100000 in
set_option maxHeartbeats 4000000 in
theorem rPutInt_small (fl bits n : Nat) (hb : bits ≤ 7) (hn : n + 1 < 2 ^ bits) (hf : fl + n < 256) (w : World) :
  Calls Tryz.prog 42 #[.int .u8 (fl : Int), .int .i64 (bits : Int), .int .u32 (n : Int)] w fun e w' => ∃ v, e = .returned v ∧ w'.ownsRow w.heap.size 5 1 v 1 [.int .u8 ((fl + n : Nat) : Int)] ∧ Below w.heap.size w w' := by
 have HP := Lib.hid (show ∀ k, k ≤ bits → 1 ≤ 2 ^ k ∧ 2 ^ k ≤ 128 from fun k hk => ⟨Nat.one_le_two_pow, Nat.le_trans (Nat.pow_le_pow_right (by decide) (Nat.le_trans hk hb)) (by decide)⟩)
 have HN := Lib.hid hn
 clear hn
 go_enter Tryz.func42, Tryz.ntmps42
 go_wp2
 go_loop [7, 8] (fun full i => ∃ k m : Nat, k ≤ bits ∧ Hid (m = 2 ^ k) ∧ 1 ≤ m ∧ m ≤ 128 ∧ i = .int .i64 (k : Int) ∧ full = .int .u32 (m : Int)) (fun _ i => bits - (intOf i).toNat)
 case atStart => exact ⟨0, 1, Nat.zero_le _, rfl, by decide, by decide, rfl, rfl⟩
 case round =>
  obtain ⟨k, m, hk, HM, hm1, hm2, rfl, rfl⟩ := hrel
  by_cases hlt : k < bits
  ·obtain ⟨h1, h2⟩ := HP.out (k + 1) hlt
   have HM2 : Hid (m * 2 = 2 ^ (k + 1)) := by rw [HM.out, Nat.pow_succ];rfl
   have h3 : m * 2 ≤ 128 := by rw [HM2.out];exact h2
   clear h1 h2
   go_wp2
   go_round
   case rel => exact ⟨k + 1, m * 2, hlt, HM2, by omega, h3, by go_num, by go_num⟩
   case measure => simp [intOf];omega
  ·obtain rfl : k = bits := by omega
   have hn : n + 1 < m := by rw [HM.out];exact HN.out
   have hs : (n : Int) < (m : Int) - 1 := by omega
   go_wp2
   go_ret
   exact ⟨_, rfl, World.ownsRow_lit (base := w.heap.size) (e := 5) (size := 1) w #[.int .u8 ((fl + n : Nat) : Int)] 1 (Nat.le_refl _) (by decide) rfl, (Below.refl _ _).alloc (Nat.le_refl _) _⟩
end Go.Proofs.YtkeeofhjdffhbaaGreatDoor
namespace Go.Dr
/-- how many bits each byte's code has -/
def lenL : List Nat := [13, 23, 28, 28, 28, 28, 28, 28, 28, 24, 30, 28, 28, 30, 28, 28, 28, 28, 28, 28, 28, 28, 30, 28, 28, 28, 28, 28, 28, 28, 28, 28, 6, 10, 10, 12, 13, 6, 8, 11, 10, 10, 8, 11, 8, 6, 6, 6, 5, 5, 5, 6, 6, 6, 6, 6, 6, 6, 7, 8, 15, 6, 12, 10, 13, 6, 7, 7, 7, 7, 7, 7, 7, 7, 7, 7, 7, 7, 7, 7, 7, 7, 7, 7, 7, 7, 7, 7, 8, 7, 8, 13, 19, 13, 14, 6, 15, 5, 6, 5, 6, 5, 6, 6, 6, 5, 7, 7, 6, 6, 6, 5, 6, 7, 6, 5, 5, 6, 7, 7, 7, 7, 7, 15, 11, 14, 13, 28, 20, 22, 20, 20, 22, 22, 22, 23, 22, 23, 23, 23, 23, 23, 24, 23, 24, 24, 22, 23, 24, 23, 23, 23, 23, 21, 22, 23, 22, 23, 23, 24, 22, 21, 20, 22, 22, 23, 23, 21, 23, 22, 22, 24, 21, 22, 23, 23, 21, 21, 22, 21, 23, 22, 23, 23, 20, 22, 22, 22, 23, 22, 22, 23, 26, 26, 20, 19, 22, 23, 22, 25, 26, 26, 26, 27, 27, 26, 24, 25, 19, 21, 26, 27, 27, 26, 27, 24, 21, 21, 26, 26, 28, 27, 27, 27, 20, 24, 20, 21, 22, 21, 21, 23, 22, 22, 25, 25, 24, 24, 26, 23, 26, 27, 26, 26, 27, 27, 27, 27, 27, 28, 27, 27, 27, 27, 27, 26, 30]
def lenN (c : UInt8) : Nat := lenL.getD c.toNat 0
theorem lenL_small : ∀ n ∈ lenL, n ≤ 30 := by decide +kernel
theorem lenL_length : lenL.length = 257 := by decide +kernel
theorem getD_at (l : List Nat) (k : Nat) (h : k < l.length) : l.getD k 0 = l[k] := by simp [List.getD, List.getElem?_eq_getElem h]
theorem lenN_le (c : UInt8) : lenN c ≤ 30 := by
 have hc : c.toNat < lenL.length := by rw [lenL_length];have := UInt8.toNat_lt c;omega
 unfold lenN
 rw [getD_at _ _ hc]
 exact lenL_small _ (List.getElem_mem _)
def bitsF (l : Bytes) : Nat := (l.map lenN).sum
def huffN (l : Bytes) : Nat := (bitsF l + 7) / 8
theorem bitsF_snoc (l : Bytes) (k : Nat) (h : k < l.length) : bitsF (l.take (k + 1)) = bitsF (l.take k) + lenN l[k] := by
 rw [take_snoc l k h];simp only [bitsF, List.map_append, List.sum_append, List.map_cons, List.map_nil, List.sum_cons, List.sum_nil];rfl
theorem bitsF_le (l : Bytes) : bitsF l ≤ 30 * l.length := by
 induction l with
 | nil => simp [bitsF]
 | cons c l ih => have := lenN_le c;simp only [bitsF, List.map_cons, List.sum_cons, List.length_cons] at ih ⊢;omega
end Go.Dr
namespace Go.Proofs.YtkeeofhjdffhbaaGreatDoor
open Go.RowKit Go.Dr
set_option maxRecDepth 100000 in
set_option maxHeartbeats 4000000 in
theorem rLengths (w : World) : Calls Tryz.prog 115 #[] w fun e w' => e = .returned (.slice (some ⟨w.heap.size, 0, none⟩) 257 257) ∧ w' = w.alloc (.cells ((lenL.map fun n : Nat => (n : Int)).map (Value.int .i64)).toArray 3) := by
 go_enter Tryz.func115, Tryz.ntmps115
 go_upto_region 1 with fail
 refine wp_region_lit ?_
 refine Go.wpList_buildFlat rfl 85 3 257 _ rfl .i64 (lenL.map fun n : Nat => (n : Int)) Tryz.underlying85 (by kernel_rfl) (by kernel_rfl) (by rw [List.length_map, lenL_length]) (by decide) (by decide) (by kernel_rfl) ?_
 generalize hz : (lenL.map fun n : Nat => (n : Int)).map (Value.int .i64) = zs
 have HZ := Lib.hid hz
 clear hz
 go_wp2
 go_ret
 exact ⟨rfl, by rw [HZ.out]⟩
theorem len_cell {w W : World} (hb : Below (w.heap.size + 1) (w.alloc (.cells ((lenL.map fun n : Nat => (n : Int)).map (Value.int .i64)).toArray 3)) W) (c : UInt8) : W.cell? ⟨w.heap.size, c.toNat, none⟩ = some (.int .i64 (lenN c : Nat)) := by
 have hc : c.toNat < lenL.length := by rw [lenL_length];have := UInt8.toNat_lt c;omega
 rw [hb.cell (p := ⟨w.heap.size, c.toNat, none⟩) (by simp)]
 have e : (w.alloc (.cells ((lenL.map fun n : Nat => (n : Int)).map (Value.int .i64)).toArray 3)).heap[w.heap.size]? = some (.cells ((lenL.map fun n : Nat => (n : Int)).map (Value.int .i64)).toArray 3) := obj_new w _ _ rfl
 simp only [World.cell?, e]
 simp [List.getElem?_eq_getElem hc, lenN, getD_at _ _ hc]
set_option maxRecDepth 100000 in
set_option maxHeartbeats 4000000 in
theorem rSize_any (l : Bytes) (hl : l.length ≤ 1048576) (w : World) : Calls Tryz.prog 82 #[S l] w fun e w' => e = .returned (.int .i64 (huffN l : Nat)) ∧ Below w.heap.size w w' := by
 have hm : l.length ≤ 9223372036854775807 := by omega
 have hbw : Below w.heap.size w (w.alloc (.cells ((lenL.map fun n : Nat => (n : Int)).map (Value.int .i64)).toArray 3)) := (Below.refl _ _).alloc (Nat.le_refl _) _
 have hlc := len_cell (w := w) (Below.refl _ _)
 have HB := Lib.hid (bitsF_le l)
 go_enter Tryz.func82, Tryz.ntmps82
 go_wp2_with (go_at_call 115;(with_reducible refine (rLengths _).mono ?_);rintro e w1 ⟨rfl, hw1⟩;rw [← hw1] at hbw hlc;clear hw1)
 go_loop [4, 5] (fun n i => ∃ k : Nat, k ≤ l.length ∧ i = .int .i64 (k : Int) ∧ n = .int .i64 (bitsF (l.take k) : Nat) ∧ bitsF (l.take k) ≤ 30 * k) (fun _ i => l.length - (intOf i).toNat)
 case atStart => exact ⟨0, Nat.zero_le _, rfl, rfl, by simp [bitsF]⟩
 case round =>
  obtain ⟨k, hk, rfl, rfl, hbk⟩ := hrel
  by_cases hlt : k < l.length
  ·have HS := Lib.hid (bitsF_snoc l k hlt)
   have h30 := lenN_le l[k]
   have hc := hlc l[k]
   have hcn := UInt8.toNat_lt l[k]
   generalize bitsF (l.take k) = n at *
   go_wp2
   go_round
   case rel => exact ⟨k + 1, hlt, by go_num, by rw [HS.out];go_num, by rw [HS.out];omega⟩
   case measure => simp [intOf];omega
  ·obtain rfl : k = l.length := by omega
   rw [List.take_length] at *
   have hz : huffN l = (bitsF l + 7) / 8 := rfl
   have HZ := Lib.hid hz
   clear hz
   generalize bitsF l = n at *
   go_wp2
   go_loop [4] (fun x => ∃ m : Nat, x = .int .i64 (m : Int) ∧ n ≤ m ∧ m < n + 8 ∧ (m + 7) / 8 = (n + 7) / 8) (fun x => (8 - (intOf x).toNat % 8) % 8)
   case atStart => exact ⟨n, rfl, Nat.le_refl _, by omega, rfl⟩
   case round =>
    obtain ⟨m, rfl, h1, h2, h3⟩ := hrel
    by_cases h8 : m % 8 = 0
    ·have h9 : ((m : Int) % 8 != 0) = false := by simp;omega
     have h10 : m / 8 = huffN l := by rw [HZ.out, ← h3];omega
     have H10 := Lib.hid h10
     clear h8 h10
     go_wp2
     go_ret
     exact ⟨ret_int (by rw [← H10.out];omega), hbw⟩
    ·have h9 : ((m : Int) % 8 != 0) = true := by simp;omega
     go_wp2
     go_round
     case rel => exact ⟨m + 1, by go_num, by omega, by omega, by omega⟩
     case measure => simp [intOf];omega
set_option maxRecDepth 100000 in
set_option maxHeartbeats 4000000 in
/-- a text that is not shorter as bits -/
theorem rPutText_raw (l : Bytes) (hl : l.length < 127) (hh : l.length ≤ huffN l) (w : World) : Calls Tryz.prog 45 #[S l] w fun e w' => ∃ v, e = .returned v ∧ w'.ownsRow w.heap.size 5 1 v (1 + l.length) ((UInt8.ofNat l.length :: l).map B8) ∧ Below w.heap.size w w' := by
 have hd : decide (huffN l < l.length) = false := by simp;omega
 have hq : IntKind.u32.wrap (l.length : Int) = (l.length : Int) := by simp [IntKind.wrap, IntKind.signed, IntKind.bits];omega
 have hP := rPutInt_small 0 7 l.length (by decide) (by show l.length + 1 < 128;omega) (by omega)
 have hu : ((0 + l.length : Nat) : Int) = ((UInt8.ofNat l.length).toNat : Int) := by simp;omega
 have HU := Lib.hid hu
 clear hu
 go_enter Tryz.func45, Tryz.ntmps45
 go_wp2_with first
  | (go_at_call 82;(with_reducible refine (rSize_any l (by omega) _).mono ?_);rintro e w1 ⟨rfl, hb1⟩)
  | (go_at_call 42;go_must (refine (hP _).mono ?_);rintro e w2 ⟨v2, rfl, hr2, hb2⟩;rw [HU.out] at hr2;obtain ⟨a2, c2, rfl⟩ := own_form hr2)
  | (at_builtin;go_must (refine wpList_appStr rfl _ _ 26 9 rfl w.heap.size 5 Tryz.underlying26 Tryz.underlying9 (by kernel_rfl) _ _ _ rfl (own_base hr2 hb1.size) l rfl (by omega) (by have := hb1.size;have := hb2.size;omega) ?_);intro a3 c3 w3 hr3 hb3)
 go_ret
 refine ⟨_, rfl, hr3, ?_⟩
 exact (hb1.trans (hb2.mono hb1.size)).trans hb3
end Go.Proofs.YtkeeofhjdffhbaaGreatDoor
namespace Go.Proofs.YtkeeofhjdffhbaaGreatDoor
open Go.RowKit Go.Dr
/-- the fixed rows, as fields -/
def statF : List F := statL.map fun p => ⟨p.1, p.2, false⟩
theorem statF_length : statF.length = 61 := by decide +kernel
theorem statF_cells : fcells statF = refC.toList := by kernel_rfl
set_option maxRecDepth 100000 in
set_option maxHeartbeats 4000000 in
theorem refFind_all {eb : Nat} {rv : Value} (rows all : List F) (HA : Hid (all = statF ++ rows)) (f : F) (w : World) (h4 : w.cell? ⟨eb, 4, none⟩ = some rv) (hR : Fs w.heap.size w rv rows) (hrl : rows.length ≤ 1000000) (heb : eb < w.heap.size) :
  Calls Tryz.prog 43 #[.pointer (some ⟨eb, 3, none⟩), .agg #[S f.n, S f.v, .bool f.m]] w fun e w' => e = .returned (.tuple #[.int .i64 ((findR f.n f.v all 0 0).1 : Nat), .bool (findR f.n f.v all 0 0).2]) ∧ Below w.heap.size w w' := by
 obtain ⟨W, eW⟩ : ∃ W, W = w.alloc (.cells #[S f.n, S f.v, .bool f.m] 41) := ⟨_, rfl⟩
 have hb : Below w.heap.size w W := by rw [eW];exact (Below.refl _ _).alloc (Nat.le_refl _) _
 have hF : Blk W w.heap.size 41 #[S f.n, S f.v, .bool f.m] := by rw [eW];exact Blk.new _ _ _
 have hWl := hF.lt
 obtain ⟨ra, rc, rfl, -⟩ := hR.form
 have x4 : W.cell? ⟨eb, 4, none⟩ = some (.slice ra rows.length rc) := by rw [hb.cell (p := ⟨eb, 4, none⟩) heb];exact h4
 have x4a : ∀ ob, (W.alloc ob).cell? ⟨eb, 4, none⟩ = some (.slice ra rows.length rc) := fun ob => by rw [((Below.refl W.heap.size W).alloc (Nat.le_refl _) ob).cell (p := ⟨eb, 4, none⟩) (by show eb < _;omega)];exact x4
 have hO : (W.drew.alloc (.cells refC 41)).ownsRow W.heap.size 41 3 (.slice (some ⟨W.drew.heap.size, 0, none⟩) 61 61) 61 refC.toList := World.ownsRow_lit (base := W.heap.size) (e := 41) (size := 3) W.drew refC 61 (Nat.le_refl _) (by decide) (by kernel_rfl)
 have hS : Fs W.heap.size (W.drew.alloc (.cells refC 41)) (.slice ra rows.length rc) rows := ((hR.below hb).mono hb.size).below ((Below.refl _ _).drew.alloc (Nat.le_refl _) _)
 have hN : 61 + rows.length ≤ 9223372036854775807 := by omega
 go_enter Tryz.func43, Tryz.ntmps43
 go_upto_region 1 with fail
 rw [← eW]
 clear eW
 go_cut [6] (fun s6 wx => ∃ a c, s6 = .slice a (61 + rows.length) c ∧ Fs wx.heap.size wx (.slice a (61 + rows.length) c) all ∧ Blk wx w.heap.size 41 #[S f.n, S f.v, .bool f.m] ∧ Below w.heap.size w wx)
 case first =>
  go_region_law (first
   | (go_simp;go_at_call 81;(with_reducible refine (rStatic _).mono ?_);rintro e w2 ⟨rfl, hw2⟩)
   | (refine step_of ?_ (by rfl);refine wp_appG _ _ 42 rfl W.heap.size 41 (.agg #[.string ByteArray.empty, .string ByteArray.empty, .bool false]) 3 40 Tryz.underlying42 (by kernel_rfl) rfl (by decide) _ _ _ rfl hO _ _ _ (fcells rows) rfl hS (fcells_one _) (by unfold maxLen;omega) (by omega) (by simp) ?_;intro a3 c3 w3 hown3 hb3 hg3))
  all_goals (
   go_wp2
   go_meet
   refine ⟨a3, c3, rfl, ?_, Blk.below (hF.alloc _).drew hb3 hWl, (hb.alloc hb.size _).drew.trans (hb3.mono hb.size)⟩
   have h1 := Rd.own hown3
   unfold Fs
   rw [HA.out, fcells_append, statF_cells, List.length_append, statF_length]
   exact h1)
 case rest =>
  obtain ⟨a, c, rfl, hL, hB, hw⟩ := hcut
  clear hS hO x4 x4a hF hb hWl h4 hR
  have hlen : all.length = 61 + rows.length := by rw [HA.out, List.length_append, statF_length]
  rw [← hlen] at hL ⊢
  rw [← hlen] at hN
  clear hlen
  obtain ⟨w3, rfl⟩ : ∃ w3, w3 = wc := ⟨_, rfl⟩
  go_wp2
  go_loopw [7, 8] (fun near i wr => ∃ k m : Nat, k ≤ all.length ∧ i = .int .i64 (k : Int) ∧ near = .int .i64 (m : Int) ∧ m ≤ k ∧ Hid (findR f.n f.v all 0 0 = findR f.n f.v (all.drop k) k m) ∧ Below w3.heap.size w3 wr) (fun _ i _ => all.length - (intOf i).toNat)
  case atStart => exact ⟨0, 0, Nat.zero_le _, rfl, rfl, Nat.le_refl _, rfl, Below.refl _ _⟩
  case round =>
   obtain ⟨k, m, hk, rfl, rfl, hm, HI, hbr⟩ := hrel
   have hBr := hB.on hbr
   have b0 : wr.cell? ⟨w.heap.size, 0, none⟩ = some (S f.n) := hBr.cell 0
   have b1 : wr.cell? ⟨w.heap.size, 1, none⟩ = some (S f.v) := hBr.cell 1
   by_cases hlt : k < all.length
   ·obtain ⟨g, off, rfl, hg, e0, e1, e2⟩ := (hL.below hbr).at k hlt
    cases h1 : (all[k].n == f.n) with
    | true =>
     have h1n : (all[k].n != f.n) = false := by rw [bne, h1];rfl
     cases h2 : (all[k].v == f.v) with
     | true =>
      have HE := Lib.hid (findR_hit f.n f.v all k m hlt h1 h2)
      go_wp2
      go_region
      go_wp2
      go_region
      go_wp2
      go_ret2
      exact ⟨by rw [HI.out, HE.out];rfl, (hw.trans (hbr.mono hw.size)).drew.drew⟩
     | false =>
      have HE := Lib.hid (findR_near f.n f.v all k m hlt h1 h2)
      by_cases hm0 : m = 0
      ·subst hm0
       go_wp2
       go_region
       go_wp2
       go_region
       go_wp2
       go_roundw
       case rel => exact ⟨k + 1, k + 1, hlt, by go_num, by go_num, Nat.le_refl _, Lib.hid (by rw [HI.out];exact HE.out), hbr.drew.drew⟩
       case measure => simp [intOf];omega
      ·have hm1 : ((m : Int) == 0) = false := by simp;omega
       have HM := Lib.hid hm0
       clear hm0
       go_wp2
       go_region
       go_wp2
       go_region
       go_wp2
       go_roundw
       case rel => exact ⟨k + 1, m, hlt, by go_num, rfl, by omega, Lib.hid (by rw [HI.out, HE.out, if_neg HM.out]), hbr.drew.drew⟩
       case measure => simp [intOf];omega
    | false =>
     have h1n : (all[k].n != f.n) = true := by rw [bne, h1];rfl
     have HE := Lib.hid (findR_skip f.n f.v all k m hlt h1)
     go_wp2
     go_region
     go_wp2
     go_roundw
     case rel => exact ⟨k + 1, m, hlt, by go_num, rfl, by omega, Lib.hid (by rw [HI.out, HE.out]), hbr.drew⟩
     case measure => simp [intOf];omega
   ·have HE := Lib.hid (findR_end f.n f.v all k m (by omega))
    go_wp2
    go_ret2
    exact ⟨by rw [HI.out, HE.out];rfl, hw.trans (hbr.mono hw.size)⟩
theorem refFind_any {eb : Nat} {rv : Value} (rows : List F) (f : F) (w : World) (h4 : w.cell? ⟨eb, 4, none⟩ = some rv) (hR : Fs w.heap.size w rv rows) (hrl : rows.length ≤ 1000000) (heb : eb < w.heap.size) :
  Calls Tryz.prog 43 #[.pointer (some ⟨eb, 3, none⟩), .agg #[S f.n, S f.v, .bool f.m]] w fun e w' => e = .returned (.tuple #[.int .i64 ((findR f.n f.v (statF ++ rows) 0 0).1 : Nat), .bool (findR f.n f.v (statF ++ rows) 0 0).2]) ∧ Below w.heap.size w w' :=
 refFind_all rows _ (Lib.hid rfl) f w h4 hR hrl heb
end Go.Proofs.YtkeeofhjdffhbaaGreatDoor
namespace Go.Dr
open Go.Proofs.YtkeeofhjdffhbaaGreatDoor
/-- the bytes of a field: a fixed row's number;or the name's number and the value -/
def encB (f : F) : Bytes := if (findR f.n f.v statF 0 0).2 then [UInt8.ofNat (128 + (findR f.n f.v statF 0 0).1)] else UInt8.ofNat (findR f.n f.v statF 0 0).1 :: UInt8.ofNat f.v.length :: f.v
structure EncOk (f : F) : Prop where
 m : f.m = false
 n1 : (f.n == [97, 117, 116, 104, 111, 114, 105, 122, 97, 116, 105, 111, 110]) = false
 n2 : (f.n == [115, 101, 116, 45, 99, 111, 111, 107, 105, 101]) = false
 w1 : (findR f.n f.v statF 0 0).2 = true → (findR f.n f.v statF 0 0).1 < 127
 w2 : (findR f.n f.v statF 0 0).2 = false → 0 < (findR f.n f.v statF 0 0).1 ∧ (findR f.n f.v statF 0 0).1 < 15 ∧ f.v.length < 127 ∧ f.v.length ≤ huffN f.v
end Go.Dr
namespace Go.Proofs.YtkeeofhjdffhbaaGreatDoor
open Go.RowKit Go.Dr
abbrev encZ (told least : Int) : Array Value := #[.int .i64 0, .int .i64 told, .int .i64 least, .int .i64 0, .slice none 0 0]
set_option maxRecDepth 100000 in
set_option maxHeartbeats 4000000 in
theorem rCost_any (f : F) (hn : f.n.length ≤ 1048576) (hv : f.v.length ≤ 1048576) (w : World) : Calls Tryz.prog 44 #[.agg #[S f.n, S f.v, .bool f.m]] w fun e w' => e = .returned (.int .i64 ((f.n.length + f.v.length + 32 : Nat) : Int)) ∧ Below w.heap.size w w' := by
 have hA := Blk.new w 41 #[S f.n, S f.v, .bool f.m]
 have a0 := hA.cell 0
 have a1 := hA.cell 1
 go_enter Tryz.func44, Tryz.ntmps44
 go_wp2
 go_ret
 exact ⟨ret_int (by omega), (Below.refl _ _).alloc (Nat.le_refl _) _⟩
theorem row_eq {w : World} {base n c : Nat} {a : Option Addr} {X Y t : Bytes} {xs : List Value} (h : Y = X ++ t) (ho : w.ownsRow base 5 1 (.slice a n c) n xs) (hn : n = X.length + t.length) (hx : xs = X.map B8 ++ t.map B8) : w.ownsRow base 5 1 (.slice a Y.length c) Y.length (Y.map B8) := by
 subst h hn hx
 rw [List.length_append, List.map_append]
 exact ho
theorem b8_nat (n : Nat) (h : n < 256) : B8 (UInt8.ofNat n) = .int .u8 (n : Int) := by
 rw [b8_of]
 congr 1
 omega
theorem u32_small (n : Nat) (h : n < 4294967296) : IntKind.u32.wrap (n : Int) = (n : Int) := by simp [IntKind.wrap, IntKind.signed, IntKind.bits];omega
set_option maxRecDepth 100000 in
set_option maxHeartbeats 8000000 in
theorem rEncode_zero {eb : Nat} {la : Value} (l : List F) (hl : ∀ f ∈ l, EncOk f) (hs : ∀ f ∈ l, f.n.length ≤ 1048576 ∧ f.v.length ≤ 126) (hk : l.length ≤ 1000) (w : World) (hE : Blk w eb 109 (encZ 4096 0)) (hL : Fs w.heap.size w la l) (hne : ∀ a c, la = .slice a l.length c → ∀ b off, a = some ⟨b, off, none⟩ → b ≠ eb) :
  Calls Tryz.prog 12 #[Ptr eb, la] w fun e w' => ∃ v, e = .returned v ∧ w'.ownsRow w.heap.size 5 1 v (32 :: l.flatMap encB).length ((32 :: l.flatMap encB).map B8) ∧ But (fun k => k = eb) w w' := by
 obtain ⟨lv, lc, rfl, hcap⟩ := hL.form
 have y1 : w.cell? ⟨eb, 1, none⟩ = some (.int .i64 4096) := hE.cell 1
 have y2 : w.cell? ⟨eb, 2, none⟩ = some (.int .i64 0) := hE.cell 2
 have y3 : w.cell? ⟨eb, 3, none⟩ = some (.int .i64 0) := hE.cell 3
 have f1 := hE.free 1
 have f2 := hE.free 2
 have hP := rPutInt_small 32 5 0 (by decide) (by decide) (by decide)
 go_enter Tryz.func12, Tryz.ntmps12
 go_upto_region 3 with fail
 go_region
 have hED := hE.drew
 go_upto_region 10 with first
  | (go_at_call 42;go_must (refine (hP _).mono ?_);rintro e w1 ⟨v1, rfl, hr1, hb1⟩;obtain ⟨a1, c1, rfl⟩ := own_form hr1)
  | (at_builtin;go_must (refine wpList_appRd rfl _ _ 26 rfl w.heap.size 5 (.int .u8 0) 1 1 Tryz.underlying26 (by kernel_rfl) rfl (by decide) _ _ _ rfl (World.ownsRow_nil _ _ _ _) _ _ _ _ rfl (Rd.own hr1) (by intro u hu;simp at hu;subst hu;rfl) (by decide) (by decide) hb1.size ?_);intro a2 c2 w2 hr2 hb2;have hE2 := hED.on (hb1.trans hb2);have g1 := hE2.free 1;have g2 := hE2.free 2;have z1 : w2.cell? ⟨eb, 1, none⟩ = some (.int .i64 4096) := hE2.cell 1;have z2 : w2.cell? ⟨eb, 2, none⟩ = some (.int .i64 0) := hE2.cell 2)
 have heb := hE.lt
 have hE3 : Blk ((w2.setCell ⟨eb, 1, none⟩ (.int .i64 0)).setCell ⟨eb, 2, none⟩ (.int .i64 0)) eb 109 (encZ 0 0) := (hE2.set 1 _).set 2 _
 have hr3 := ownsRow_setCell_below (a := ⟨eb, 2, none⟩) (ownsRow_setCell_below (a := ⟨eb, 1, none⟩) hr2 heb (.int .i64 0)) heb (.int .i64 0)
 have hb02 : Below w.heap.size w w2 := (Below.refl _ _).drew.trans (hb1.trans hb2)
 have hu3 : But (fun k => k = eb) w ((w2.setCell ⟨eb, 1, none⟩ (.int .i64 0)).setCell ⟨eb, 2, none⟩ (.int .i64 0)) := ((But.of_below (S := fun k => k = eb) hb02).setCell (p := ⟨eb, 1, none⟩) (.inl rfl) _).setCell (p := ⟨eb, 2, none⟩) (.inl rfl) _
 obtain ⟨w3, e3⟩ : ∃ w3, w3 = ((w2.setCell ⟨eb, 1, none⟩ (.int .i64 0)).setCell ⟨eb, 2, none⟩ (.int .i64 0)) := ⟨_, rfl⟩
 rw [← e3] at hE3 hr3 hu3 ⊢
 have hLo : ∀ wx, But (fun k => k = eb) w wx → Fs w.heap.size wx (.slice lv l.length lc) l := by
  intro wx hu
  obtain ⟨a', cap', h1, h2, h3, h4, h5, h6⟩ := hL
  refine ⟨a', cap', h1, h2, h3, h4, h5, fun j u hu' => ?_⟩
  obtain ⟨b, off, e1, q2, q3⟩ := h6 j u hu'
  refine ⟨b, off, e1, q2, ?_⟩
  have hne2 := hne a' cap' h1 b off e1
  simp only [World.cell?, hu.block b q2 hne2] at q3 ⊢
  exact q3
 have HL := Lib.hid hLo
 clear e3 hr2 hE2 hb02 hED hr1 hb1 hb2 g1 g2 z1 z2 y1 y2 y3 f1 f2 hL hP hE hne hLo
 go_wp2
 go_loopw [5, 7] (fun out i wr => ∃ k : Nat, k ≤ l.length ∧ i = .int .i64 (k : Int) ∧ ∃ X a c, Hid (X = 32 :: (l.take k).flatMap encB) ∧ X.length ≤ 1 + 128 * k ∧ out = .slice a X.length c ∧ wr.ownsRow w.heap.size 5 1 (.slice a X.length c) X.length (X.map B8) ∧ Blk wr eb 109 (encZ 0 0) ∧ But (fun k => k = eb) w wr) (fun _ i _ => l.length - (intOf i).toNat)
 case atStart => exact ⟨0, Nat.zero_le _, rfl, [32], a2, c2, rfl, by decide, rfl, hr3, hE3, hu3⟩
 case round =>
  obtain ⟨k, hkl, rfl, X, a, c, HX, hXl, rfl, hr, hEr, hur⟩ := hrel
  by_cases hlt : k < l.length
  ·obtain ⟨g, off, rfl, hg, c0, c1, c2⟩ := (HL.out wr hur).at k hlt
   have HS := Lib.hid (show (32 :: (l.take (k + 1)).flatMap encB : Bytes) = (32 :: (l.take k).flatMap encB) ++ encB l[k] by rw [take_snoc l k hlt, List.flatMap_append, List.flatMap_cons, List.flatMap_nil, List.append_nil];rfl)
   obtain ⟨f, ef⟩ : ∃ f, f = l[k] := ⟨_, rfl⟩
   have hf := hl f (ef ▸ List.getElem_mem _)
   have hsf := hs f (ef ▸ List.getElem_mem _)
   rw [← ef] at c0 c1 c2 HS
   clear ef
   obtain ⟨hfn, hfv⟩ := hsf
   have n1 := hf.n1
   have n2 := hf.n2
   have hfm := hf.m
   obtain ⟨W1, eW1⟩ : ∃ W1, W1 = wr.alloc (.cells #[S f.n, S f.v, .bool false] 41) := ⟨_, rfl⟩
   have hb1 : Below wr.heap.size wr W1 := by rw [eW1];exact (Below.refl _ _).alloc (Nat.le_refl _) _
   have hF1 : Blk W1 wr.heap.size 41 #[S f.n, S f.v, .bool false] := by rw [eW1];exact Blk.new _ _ _
   have hE1 := hEr.on hb1
   have hr1 := own_below hr hb1
   have hu1 := hur.trans (But.of_below (S := fun k => k = eb) hb1)
   have k0 : W1.cell? ⟨wr.heap.size, 0, none⟩ = some (S f.n) := hF1.cell 0
   have k1 : W1.cell? ⟨wr.heap.size, 1, none⟩ = some (S f.v) := hF1.cell 1
   have k2 : W1.cell? ⟨wr.heap.size, 2, none⟩ = some (.bool false) := hF1.cell 2
   have hFi := refFind_any [] f W1.drew (hE1.drew.cell 4) (Rd.nil _ _ _) (by decide) hE1.lt
   have hCo := fun w => rCost_any f hfn (Nat.le_trans hfv (by decide)) w
   rw [List.append_nil, hfm] at hFi
   rw [hfm] at c2 hCo
   have w1 := hf.w1
   have w2 := hf.w2
   have HE : Hid (encB f = if (findR f.n f.v statF 0 0).2 then [UInt8.ofNat (128 + (findR f.n f.v statF 0 0).1)] else UInt8.ofNat (findR f.n f.v statF 0 0).1 :: UInt8.ofNat f.v.length :: f.v) := rfl
   clear hfm hf
   generalize findR f.n f.v statF 0 0 = r at hFi w1 w2 HE
   obtain ⟨p, b⟩ := r
   simp only at hFi w1 w2 HE
   go_upto_region 14 with fail
   rw [← eW1]
   clear eW1
   go_region_with (go_at_call 43;go_must (refine hFi.mono ?_);rintro e w4 ⟨rfl, hb4⟩)
   all_goals
    have hF4 := hF1.drew.on hb4
    have hE4 := hE1.drew.on hb4
    have hr4 := own_below (show W1.drew.ownsRow w.heap.size 5 1 (.slice a X.length c) X.length (X.map B8) from hr1) hb4
    have hu4 := hu1.drew.trans (But.of_below (S := fun k => k = eb) hb4)
    have m0 : w4.cell? ⟨wr.heap.size, 0, none⟩ = some (S f.n) := hF4.cell 0
    have m1 : w4.cell? ⟨wr.heap.size, 1, none⟩ = some (S f.v) := hF4.cell 1
    have m2 : w4.cell? ⟨wr.heap.size, 2, none⟩ = some (.bool false) := hF4.cell 2
    clear k0 k1 k2 c0 c1 c2 hFi hb4 hF1 hE1 hr1 hu1
    cases b with
    | true =>
     have hp := w1 rfl
     have hP := rPutInt_small 128 7 p (by decide) (by show p + 1 < 128;omega) (by omega)
     have hq := u32_small p (by omega)
     rw [if_pos rfl] at HE
     clear w1 w2 hCo
     go_wp2_with first
      | (go_at_call 42;go_must (refine (hP _).mono ?_);rintro e w5 ⟨v5, rfl, hr5, hb5⟩;obtain ⟨a5, c5, rfl⟩ := own_form hr5)
      | (at_builtin;go_must (refine wpList_appRd rfl _ _ 26 rfl w.heap.size 5 (.int .u8 0) 1 1 Tryz.underlying26 (by kernel_rfl) rfl (by decide) _ _ _ rfl (own_below hr4 hb5) _ _ _ _ rfl (Rd.own hr5) (by intro u hu;simp at hu;subst hu;rfl) (by unfold maxLen;omega) (by omega) (Nat.le_trans hu4.size hb5.size) ?_);intro a6 c6 w6 hr6 hb6)
     go_roundw
     case rel =>
      have hu6 := but_on (hu4.trans (But.of_below (S := fun k => k = eb) hb5)) hb6
      have hE6 := (hE4.on hb5).below hb6 heb
      exact ⟨k + 1, hlt, by go_num, X ++ [UInt8.ofNat (128 + p)], a6, c6, Lib.hid (by rw [HS.out, ← HX.out, HE.out]), by rw [List.length_append, List.length_singleton];omega, by rw [List.length_append];rfl, row_eq rfl hr6 rfl (by rw [List.map_cons, List.map_nil, b8_nat _ (by omega)]), hE6, hu6⟩
     case measure => simp [intOf];omega
    | false =>
     obtain ⟨p0, p1, p2, p3⟩ := w2 rfl
     have hP := rPutInt_small 0 4 p (by decide) (by show p + 1 < 16;omega) (by omega)
     have hT := rPutText_raw f.v p2 p3
     have hq := u32_small p (by omega)
     have hp0 : ((p : Int) == 0) = false := by simp;omega
     have hc0 : ¬ (((f.n.length + f.v.length + 32 : Nat) : Int) ≤ 0) := by omega
     have hc1 : decide (((f.n.length + f.v.length + 32 : Nat) : Int) ≤ 0) = false := by rw [decide_eq_false_iff_not];exact hc0
     rw [if_neg (by decide)] at HE
     clear w1 w2
     have k3 : w4.cell? ⟨eb, 3, none⟩ = some (.int .i64 0) := hE4.cell 3
     go_upto_region 18 with fail
     go_cut [12] (fun s12 wx => s12 = .bool false ∧ Below w4.heap.size w4 wx)
     case first =>
      have hCd := hCo w4.drew
      have k3d : w4.drew.cell? ⟨eb, 3, none⟩ = some (.int .i64 0) := k3
      go_region_held3 (fun w' => w'.cell? ⟨wr.heap.size, 0, none⟩ = some (S f.n) ∧ w'.cell? ⟨wr.heap.size, 1, none⟩ = some (S f.v) ∧ w'.cell? ⟨wr.heap.size, 2, none⟩ = some (.bool false) ∧ w'.cell? ⟨eb, 3, none⟩ = some (.int .i64 0))
       (first | go_keep)
       ((go_at_call 44;refine (hCo _).mono ?_;rintro e w5 ⟨rfl, hb5⟩;have hF5 := hF4.drew.on hb5;have x0 : w5.cell? ⟨wr.heap.size, 0, none⟩ = some (S f.n) := hF5.cell 0;have x1 : w5.cell? ⟨wr.heap.size, 1, none⟩ = some (S f.v) := hF5.cell 1;have x2 : w5.cell? ⟨wr.heap.size, 2, none⟩ = some (.bool false) := hF5.cell 2;have x3 : w5.cell? ⟨eb, 3, none⟩ = some (.int .i64 0) := (hE4.drew.on hb5).cell 3))
      all_goals (go_wp2;go_meet;exact ⟨rfl, (Below.refl _ _).drew.trans hb5⟩)
     case rest =>
      obtain ⟨rfl, hb5⟩ := hcut
      obtain ⟨w5, rfl⟩ : ∃ w5, w5 = wc := ⟨_, rfl⟩
      have hF5 := hF4.on hb5
      have hE5 := hE4.on hb5
      have hr5 := own_below hr4 hb5
      have hu5 := hu4.trans (But.of_below (S := fun k => k = eb) hb5)
      clear hCo hc0 hc1 m0 m1 m2 k3 hF4 hE4 hr4 hu4 hb5
      have m0 : w5.cell? ⟨wr.heap.size, 0, none⟩ = some (S f.n) := hF5.cell 0
      have m1 : w5.cell? ⟨wr.heap.size, 1, none⟩ = some (S f.v) := hF5.cell 1
      go_wp2_with first
       | (at_builtin;have tok := hr8;go_must (refine wpList_appRd rfl _ _ 26 rfl w.heap.size 5 (.int .u8 0) 1 1 Tryz.underlying26 (by kernel_rfl) rfl (by decide) _ _ _ rfl (own_below hr7 hb8) _ _ _ _ rfl (Rd.own hr8) (b8_one2 _) (by unfold maxLen;omega) (by omega) (by have := hu5.size;have := hb6.size;have := hb7.size;have := hb8.size;omega) ?_);intro a9 c9 w9 hr9 hb9)
       | (at_builtin;go_must (refine wpList_plain rfl fun K hK => ?_;refine wp_appG _ _ 26 rfl w.heap.size 5 (.int .u8 0) 1 1 Tryz.underlying26 (by kernel_rfl) rfl (by decide) _ _ _ rfl (own_below hr5 hb6) _ _ _ _ rfl (Rd.own hr6) (by intro u hu;simp at hu;subst hu;rfl) (by unfold maxLen;omega) (by omega) (Nat.le_trans hu5.size hb6.size) ?_);intro a7 c7 w7 hr7 hb7 hg7;refine hK _ _ ?_;have hF7 := (hF5.on hb6).grow hg7 (own_ne hr (Nat.le_refl _));have m7 : w7.cell? ⟨wr.heap.size, 1, none⟩ = some (S f.v) := hF7.cell 1;have hu7 := but_on (hu5.trans (But.of_below (S := fun k => k = eb) hb6)) hb7;have hE7 := (hE5.on hb6).below hb7 heb)
       | (go_at_call 45;go_must (refine (hT _).mono ?_);rintro e w8 ⟨v8, rfl, hr8, hb8⟩;obtain ⟨a8, c8, rfl⟩ := own_form hr8)
       | (go_at_call 42;go_must (refine (hP _).mono ?_);rintro e w6 ⟨v6, rfl, hr6, hb6⟩;obtain ⟨a6, c6, rfl⟩ := own_form hr6)
      go_roundw
      case rel =>
       have hu9 := but_on (hu7.trans (But.of_below (S := fun k => k = eb) hb8)) hb9
       have hE9 := (hE7.on hb8).below hb9 heb
       have eY : X.length + 1 + (1 + f.v.length) = (X ++ (UInt8.ofNat p :: UInt8.ofNat f.v.length :: f.v)).length := by simp;omega
       exact ⟨k + 1, hlt, by go_num, X ++ (UInt8.ofNat p :: UInt8.ofNat f.v.length :: f.v), a9, c9, Lib.hid (by rw [HS.out, ← HX.out, HE.out]), by rw [← eY];omega, by rw [← eY], row_eq rfl hr9 (by simp;omega) (by simp only [List.map_cons, Nat.zero_add, b8_nat p (show p < 256 by omega), List.append_assoc, List.singleton_append]), hE9, hu9⟩
      case measure => simp [intOf];omega
  ·obtain rfl : k = l.length := by omega
   rw [List.take_length] at HX
   go_wp2
   go_ret
   exact ⟨.slice a X.length c, rfl, (by have e := HX.out;have e2 : (l.flatMap encB).length + 1 = X.length := (by rw [e];rfl);first | (rw [e2, ← e];exact hr) | (simp only [List.length_cons, e2, ← e];exact hr)), hur⟩
end Go.Proofs.YtkeeofhjdffhbaaGreatDoor
namespace Go.Proofs.YtkeeofhjdffhbaaGreatDoor
open Go.RowKit Go.Dr
set_option maxRecDepth 100000 in
set_option maxHeartbeats 4000000 in
theorem rNewEnc_zero (w : World) : Calls Tryz.prog 11 #[.int .i64 0] w fun e w' => e = .returned (Ptr w.heap.size) ∧ Blk w' w.heap.size 109 (encZ 4096 0) ∧ Below w.heap.size w w' := by
 go_enter Tryz.func11, Tryz.ntmps11
 go_wp2
 go_ret
 exact ⟨rfl, Blk.new _ _ _, (Below.refl _ _).alloc (Nat.le_refl _) _⟩
/-- the fields of 'GET http://h/x' -/
def getX (path : Bytes) : List F := [⟨[58, 109, 101, 116, 104, 111, 100], [71, 69, 84], false⟩, ⟨[58, 115, 99, 104, 101, 109, 101], [104, 116, 116, 112], false⟩, ⟨[58, 97, 117, 116, 104, 111, 114, 105, 116, 121], [104], false⟩, ⟨[58, 112, 97, 116, 104], path, false⟩]
theorem getX_x : (32 :: (getX [47, 120]).flatMap encB) = [32, 130, 134, 1, 1, 104, 4, 2, 47, 120] := by decide +kernel
theorem getX_ok : ∀ p, p = [47] ∨ p = [47, 120] → ∀ f ∈ getX p, EncOk f := by
 rintro p (rfl | rfl) f hf <;> simp only [getX, List.mem_cons, List.not_mem_nil, or_false] at hf <;> rcases hf with rfl | rfl | rfl | rfl <;> exact ⟨rfl, by decide +kernel, by decide +kernel, by decide +kernel, by decide +kernel⟩
end Go.Proofs.YtkeeofhjdffhbaaGreatDoor
namespace Go.Proofs.YtkeeofhjdffhbaaGreatDoor
open Go Go.RowKit Go.Dr
abbrev limV : Value := .agg #[.int .i64 3, .int .i64 1000, .int .i64 4096, .int .i64 4000]
set_option maxRecDepth 100000 in
theorem Limits_any (w : World) : Calls Tryz.prog 18 #[] w fun e w' => e = .returned limV ∧ Below w.heap.size w w' := by
 go_enter Tryz.func18, Tryz.ntmps18
 go_wp2
 refine bodyPost_ret (results_cell1 Tryz.results18 rfl (run_loadVar_row _ w.heap.size 54 54 _ (0, 0) _ (Blk.new _ _ _) Tryz.underlying54 (by rfl) (by kernel_rfl))) rfl ⟨rfl, (Below.refl _ _).alloc (Nat.le_refl _) _⟩
abbrev getV (st fl : Int) (d : Bytes) : Value := .agg #[.int .i64 1, .int .i64 fl, .int .i64 st, S d, .int .i64 0, .slice none 0 0, .int .i64 0, .int .i64 0, .int .i64 0, .int .i64 0, .int .i64 0, .bool false]
theorem own_get {w : World} {B b : Nat} {p : Bytes} (h : Blk w b 41 #[S [58, 109, 101, 116, 104, 111, 100], S [71, 69, 84], .bool false, S [58, 115, 99, 104, 101, 109, 101], S [104, 116, 116, 112], .bool false, S [58, 97, 117, 116, 104, 111, 114, 105, 116, 121], S [104], .bool false, S [58, 112, 97, 116, 104], S p, .bool false]) (hB : B ≤ b) : w.ownsRow B 41 3 (.slice (some ⟨b, 0, none⟩) 4 4) 4 (fcells (getX p)) := own_of_blk (xs := #[S [58, 109, 101, 116, 104, 111, 100], S [71, 69, 84], .bool false, S [58, 115, 99, 104, 101, 109, 101], S [104, 116, 116, 112], .bool false, S [58, 97, 117, 116, 104, 111, 114, 105, 116, 121], S [104], .bool false, S [58, 112, 97, 116, 104], S p, .bool false]) h hB rfl rfl (by unfold maxLen;omega)
set_option maxRecDepth 100000 in
set_option maxHeartbeats 8000000 in
theorem Get_any (st : Int) (p : Bytes) (hp : p = [47] ∨ p = [47, 120]) (e : Bool) (w : World) : Calls Tryz.prog 21 #[.int .i64 st, S p, .bool e] w fun r w' => r = .returned (getV st (if e then 5 else 4) (32 :: (getX p).flatMap encB)) ∧ Below w.heap.size w w' := by
 obtain ⟨W, eW⟩ : ∃ W, W = w.alloc (.cells #[.int .i64 0, .int .i64 0, .int .i64 0, S [], .int .i64 0, .slice none 0 0, .int .i64 0, .int .i64 0, .int .i64 0, .int .i64 0, .int .i64 0, .bool false] 34) := ⟨_, rfl⟩
 have hR : Blk W w.heap.size 34 #[.int .i64 0, .int .i64 0, .int .i64 0, S [], .int .i64 0, .slice none 0 0, .int .i64 0, .int .i64 0, .int .i64 0, .int .i64 0, .int .i64 0, .bool false] := by rw [eW];exact Blk.new _ _ _
 have hb : Below w.heap.size w W := by rw [eW];exact (Below.refl _ _).alloc (Nat.le_refl _) _
 have hpl : p.length ≤ 2 := by rcases hp with rfl | rfl <;> decide
 have hok := getX_ok p hp
 have hwz : W.heap.size = w.heap.size + 1 := by rw [eW];simp
 generalize hd : (32 :: (getX p).flatMap encB) = d
 cases e
 all_goals (
  go_enter Tryz.func21, Tryz.ntmps21
  go_wp2_with first
   | (go_at_call 11;go_must (rw [show (w.alloc (.cells #[.int .i64 0, .int .i64 0, .int .i64 0, .string ⟨#[]⟩, .int .i64 0, .slice none 0 0, .int .i64 0, .int .i64 0, .int .i64 0, .int .i64 0, .int .i64 0, .bool false] 34)) = W from eW.symm];clear eW;(with_reducible refine (rNewEnc_zero _).mono ?_);rintro r w1 ⟨rfl, hE1, hb1⟩;rw [hwz] at hE1;have hR1 := hR.on hb1;have hb01 := hb.trans (hb1.mono hb.size);obtain ⟨W2, eW2⟩ : ∃ W2, W2 = w1.alloc (.cells #[S [58, 109, 101, 116, 104, 111, 100], S [71, 69, 84], .bool false, S [58, 115, 99, 104, 101, 109, 101], S [104, 116, 116, 112], .bool false, S [58, 97, 117, 116, 104, 111, 114, 105, 116, 121], S [104], .bool false, S [58, 112, 97, 116, 104], S p, .bool false] 41) := ⟨_, rfl⟩;have hL2 : Blk W2 w1.heap.size 41 #[S [58, 109, 101, 116, 104, 111, 100], S [71, 69, 84], .bool false, S [58, 115, 99, 104, 101, 109, 101], S [104, 116, 116, 112], .bool false, S [58, 97, 117, 116, 104, 111, 114, 105, 116, 121], S [104], .bool false, S [58, 112, 97, 116, 104], S p, .bool false] := (by rw [eW2];exact Blk.new _ _ _);have hb2 : Below w1.heap.size w1 W2 := (by rw [eW2];exact (Below.refl _ _).alloc (Nat.le_refl _) _);have hel := hE1.lt;have hEn := rEncode_zero (getX p) hok (by intro f hf;simp only [getX, List.mem_cons, List.not_mem_nil, or_false] at hf;rcases hf with rfl | rfl | rfl | rfl <;> simp <;> omega) (by simp [getX]) W2 (hE1.on hb2) (Fs.own (own_get hL2 (Nat.zero_le _))) (by intro a c e b off e2;simp only [Value.slice.injEq] at e;rw [e2] at e;simp at e;omega);rw [hd] at hEn))
   | (go_at_call 12;go_must (rw [show (w1.alloc (.cells #[.string ⟨#[58, 109, 101, 116, 104, 111, 100]⟩, .string ⟨#[71, 69, 84]⟩, .bool false, .string ⟨#[58, 115, 99, 104, 101, 109, 101]⟩, .string ⟨#[104, 116, 116, 112]⟩, .bool false, .string ⟨#[58, 97, 117, 116, 104, 111, 114, 105, 116, 121]⟩, .string ⟨#[104]⟩, .bool false, .string ⟨#[58, 112, 97, 116, 104]⟩, .string ⟨p.toArray⟩, .bool false] 41)) = W2 from eW2.symm];clear eW2;(with_reducible refine hEn.mono ?_);rintro r w3 ⟨v, rfl, hrow, hb3⟩;have hcv := (own_by hrow).text (P := Tryz.prog) 26 9 5 Tryz.underlying26 Tryz.underlying5 Tryz.underlying9;have hR3 := (hR1.on hb2).but hb3 (by omega);(have z0 : w3.cell? ⟨w.heap.size, 0, none⟩ = some (.int .i64 0) := hR3.cell 0;have z1 : w3.cell? ⟨w.heap.size, 1, none⟩ = some (.int .i64 0) := hR3.cell 1;have z2 : w3.cell? ⟨w.heap.size, 2, none⟩ = some (.int .i64 0) := hR3.cell 2;have z3 : w3.cell? ⟨w.heap.size, 3, none⟩ = some (S []) := hR3.cell 3;have z4 : w3.cell? ⟨w.heap.size, 4, none⟩ = some (.int .i64 0) := hR3.cell 4;have z5 : w3.cell? ⟨w.heap.size, 5, none⟩ = some (.slice none 0 0) := hR3.cell 5;have z6 : w3.cell? ⟨w.heap.size, 6, none⟩ = some (.int .i64 0) := hR3.cell 6;have z7 : w3.cell? ⟨w.heap.size, 7, none⟩ = some (.int .i64 0) := hR3.cell 7;have z8 : w3.cell? ⟨w.heap.size, 8, none⟩ = some (.int .i64 0) := hR3.cell 8;have z9 : w3.cell? ⟨w.heap.size, 9, none⟩ = some (.int .i64 0) := hR3.cell 9;have z10 : w3.cell? ⟨w.heap.size, 10, none⟩ = some (.int .i64 0) := hR3.cell 10;have z11 : w3.cell? ⟨w.heap.size, 11, none⟩ = some (.bool false) := hR3.cell 11);have v0 := hR3.free 0;have v1 := hR3.free 1;have v2 := hR3.free 2;have v3 := hR3.free 3;have v4 := hR3.free 4;have v5 := hR3.free 5;have v6 := hR3.free 6;have v7 := hR3.free 7;have v8 := hR3.free 8;have v9 := hR3.free 9;have v10 := hR3.free 10;have v11 := hR3.free 11;have hz3 := hb3.size;have hb03 : Below w.heap.size w w3 := hb01.trans ((hb2.mono hb01.size).trans (hb3.below (by intro k hk;omega) (by have := hb2.size;have := hb01.size;omega)))))
  refine bodyPost_ret (results_cell1 Tryz.results21 rfl (run_loadVar_row _ w.heap.size 34 34 _ (0, 0) _ (set12 hR3 _ _ _ _ _ _ _ _ _ _ _ _) Tryz.underlying34 (by rfl) (by kernel_rfl))) rfl ⟨rfl, bel12 hb03 (Nat.le_refl _) _ _ _ _ _ _ _ _ _ _ _ _⟩)
end Go.Proofs.YtkeeofhjdffhbaaGreatDoor
