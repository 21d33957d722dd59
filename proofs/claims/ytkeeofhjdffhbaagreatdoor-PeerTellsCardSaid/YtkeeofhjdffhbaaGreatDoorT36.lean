/- Parts of the proof of pt_root: the texts PtA Shelf Oct. -/
import Derived.Ground.Names2Prog
import Derived.Ground.SlgnProg
import Derived.Shelf.Slices.Clone
import Derived.Shelf.Slices.SearchI
import Derived.Shelf.SlicesE.Clone
import Derived.Shelf.Small.Bits
import Derived.Shelf.Small.Strs
import Derived.Shelf.Small.Utf8
import Derived.Shelf.Strconv.Itoa0
import Derived.Shelf.Strings.AsciiSet
import Derived.Shelf.Strings.Runes
import Derived.Shelf.Strings.Search1
import Derived.Shelf.Strings.Trim
import Derived.Shelf.Unicode.Decode
import Derived.Shelf.Unicode.DecodeAny
import Derived.Shelf.Unicode.DecodeLast
import Derived.Shelf.Unicode.DecodeSlow
import Derived.Shelf.Strings.SlTrimAscii
import Derived.Test.YtkeeofhjdffhbaaGreatDoorT28
import Derived.Test.YtkeeofhjdffhbaaGreatDoorT35
import Derived.Test.YtkeeofhjdffhbaaGreatDoorProg
import Derived.Test.YtkeeofhjdffhbaaGreatDoorRows
set_option linter.unusedSimpArgs false
set_option linter.unusedVariables false
set_option linter.unnecessarySimpa false
namespace Go.Proofs.YtkeeofhjdffhbaaGreatDoor
open Go Go.RowKit Go.Dr
/-- a table with one row -/
abbrev tab1 (a : Option Addr) (c m1 m2 : Nat) : Array Value := #[.int .i64 4096, .int .i64 34, .slice a 1 c, .int .i64 0, .map (some m1), .map (some m2)]
/-- a table with the row 'a: b' alone -/
def Tab1 (w : World) (t : Nat) : Prop := ∃ g c m1 m2, Blk w t 210 (tab1 (some ⟨g, 0, none⟩) c m1 m2) ∧ w.cell? ⟨g, 0, none⟩ = some (S [97]) ∧ w.cell? ⟨g, 1, none⟩ = some (S [98]) ∧ g < w.heap.size ∧ kd w g = 274 + 1
theorem Tab1.of {w : World} {t base : Nat} {a : Option Addr} {c m1 m2 : Nat} (h : Blk w t 210 (tab1 a c m1 m2)) (ho : w.ownsRow base 274 2 (.slice a 1 c) 1 abC.toList) : Tab1 w t := by
 obtain ⟨g, rfl, hc⟩ := own_cell ho (by decide)
 exact ⟨g, c, m1, m2, h, hc 0 _ rfl, hc 1 _ rfl, (own_lt ho (g := g) rfl).2, kd_own ho rfl⟩
theorem Tab1.on {w w' : World} {t : Nat} (h : Tab1 w t) (hb : Below w.heap.size w w') : Tab1 w' t := by
 obtain ⟨g, c, m1, m2, h1, h2, h3, h4, h5⟩ := h
 exact ⟨g, c, m1, m2, h1.on hb, (hb.cell (p := ⟨g, 0, none⟩) h4).trans h2, (hb.cell (p := ⟨g, 1, none⟩) h4).trans h3, Nat.lt_of_lt_of_le h4 hb.size, (kd_same (hb.block g h4)).trans h5⟩
set_option maxRecDepth 100000 in
set_option maxHeartbeats 4000000 in
theorem Len_one {t : Nat} (w : World) (h : Tab1 w t) : Calls Tryz.prog 206 #[Ptr t] w fun e w' => e = .returned (.int .i64 1) ∧ w' = w := by
 obtain ⟨g, c, m1, m2, h1, h2, h3, h4, h5⟩ := h
 have y2 : w.cell? ⟨t, 2, none⟩ = some (.slice (some ⟨g, 0, none⟩) 1 c) := h1.cell 2
 go_enter Tryz.func206, Tryz.ntmps206
 go_wp2
 go_ret
 exact ⟨rfl, rfl⟩
set_option maxRecDepth 100000 in
set_option maxHeartbeats 4000000 in
theorem At_one {t : Nat} (w : World) (h : Tab1 w t) :
  Calls Tryz.prog 200 #[Ptr t, .int .i64 62] w fun e w' => e = .returned (.tuple #[.agg #[S [97], S [98], .bool false], .int .i64 0]) ∧ Below w.heap.size w w' := by
 obtain ⟨W, eW⟩ : ∃ W, W = (w.alloc (.cells #[S [], S [], .bool false] 41)).alloc (.cells #[S [], S []] 274) := ⟨_, rfl⟩
 have hb1 : Below w.heap.size w W := by rw [eW];exact ((Below.refl _ _).alloc (Nat.le_refl _) _).alloc (by simp) _
 have hA : Blk W w.heap.size 41 #[S [], S [], .bool false] := by rw [eW];exact (Blk.new w _ _).alloc _
 have hR : Blk W (w.heap.size + 1) 274 #[S [], S []] := by rw [eW];exact bnew_at _ _ _ _ (by simp)
 have hT := h.on hb1
 have hTL := Len_one W hT
 obtain ⟨g, c, m1, m2, h1, h2, h3, h4, h5⟩ := h
 have hg1 : g ≠ w.heap.size + 1 := by omega
 have y2 : W.cell? ⟨t, 2, none⟩ = some (.slice (some ⟨g, 0, none⟩) 1 c) := (h1.on hb1).cell 2
 have c0 : W.cell? ⟨g, 0, none⟩ = some (S [97]) := (hb1.cell (p := ⟨g, 0, none⟩) h4).trans h2
 have c1 : W.cell? ⟨g, 1, none⟩ = some (S [98]) := (hb1.cell (p := ⟨g, 1, none⟩) h4).trans h3
 have r0 : W.cell? ⟨w.heap.size + 1, 0, none⟩ = some (S []) := hR.cell 0
 have r1 : W.cell? ⟨w.heap.size + 1, 1, none⟩ = some (S []) := hR.cell 1
 have f0 := hR.free 0
 have f1 := hR.free 1
 go_enter Tryz.func200, Tryz.ntmps200
 go_upto_region 3 with fail
 rw [← eW]
 clear eW
 go_upto_region 7 with (go_at_call 206;go_must ((with_reducible refine hTL.mono ?_);rintro e w2 ⟨rfl, e2⟩;subst e2))
 go_region
 obtain ⟨W5, eW5⟩ : ∃ W5, W5 = ((w2.setCell ⟨w.heap.size + 1, 0, none⟩ (S [97])).setCell ⟨w.heap.size + 1, 1, none⟩ (S [98])).drew := ⟨_, rfl⟩
 have hA5 : Blk W5 w.heap.size 41 #[S [], S [], .bool false] := by rw [eW5];exact ((hA.other (p := ⟨w.heap.size + 1, 0, none⟩) (by show w.heap.size ≠ w.heap.size + 1;omega) _).other (p := ⟨w.heap.size + 1, 1, none⟩) (by show w.heap.size ≠ w.heap.size + 1;omega) _).drew
 have hR5 : Blk W5 (w.heap.size + 1) 274 #[S [97], S [98]] := by rw [eW5];exact ((hR.set 0 _).set 1 _).drew
 have hb5 : Below w.heap.size w W5 := by rw [eW5];exact ((hb1.setCell (p := ⟨w.heap.size + 1, 0, none⟩) (by simp) _).setCell (p := ⟨w.heap.size + 1, 1, none⟩) (by simp) _).drew
 rw [← eW5]
 clear eW5 r0 r1 f0 f1 hTL
 have r0 : W5.cell? ⟨w.heap.size + 1, 0, none⟩ = some (S [97]) := hR5.cell 0
 have r1 : W5.cell? ⟨w.heap.size + 1, 1, none⟩ = some (S [98]) := hR5.cell 1
 have a0 : W5.cell? ⟨w.heap.size, 0, none⟩ = some (S []) := hA5.cell 0
 have a1 : W5.cell? ⟨w.heap.size, 1, none⟩ = some (S []) := hA5.cell 1
 have a2 : W5.cell? ⟨w.heap.size, 2, none⟩ = some (.bool false) := hA5.cell 2
 have x0 := hA5.free 0
 have x1 := hA5.free 1
 have x2 := hA5.free 2
 go_wp2
 have hAf := ((hA5.set 0 (S [97])).set 1 (S [98])).set 2 (.bool false)
 refine bodyPost_ret (results_cell_tmp Tryz.results200 rfl rfl (run_loadVar_row _ w.heap.size 41 41 _ (0, 0) _ hAf Tryz.underlying41 (by rfl) (by kernel_rfl))) rfl ⟨rfl, ?_⟩
 exact ((hb5.setCell (p := ⟨w.heap.size, 0, none⟩) (Nat.le_refl _) _).setCell (p := ⟨w.heap.size, 1, none⟩) (Nat.le_refl _) _).setCell (p := ⟨w.heap.size, 2, none⟩) (Nat.le_refl _) _
set_option maxRecDepth 100000 in
set_option maxHeartbeats 4000000 in
theorem rowsOf_one {t : Nat} (w : World) (h : Tab1 w t) : Calls Tryz.prog 171 #[Ptr t] w fun e w' => (∃ a c, e = .returned (.slice a 1 c) ∧ w'.ownsRow w.heap.size 41 3 (.slice a 1 c) 1 [S [97], S [98], .bool false]) ∧ Below w.heap.size w w' := by
 have hL := Len_one w h
 have hA := At_one w h
 go_enter Tryz.func171, Tryz.ntmps171
 go_wp2_with (go_at_call 206;go_must ((with_reducible refine hL.mono ?_);rintro e w2 ⟨rfl, e2⟩;subst e2))
 refine wp_loop_rounds 2 ?_
 rw [rounds_succ]
 go_upto_region 6 with (go_at_call 200;go_must ((with_reducible refine hA.mono ?_);rintro e w3 ⟨rfl, hb3⟩))
 have hb4 : Below w2.heap.size w2 (w3.alloc (.cells #[S [97], S [98], .bool false] 41)) := hb3.alloc hb3.size _
 have hF := Blk.new w3 41 #[S [97], S [98], .bool false]
 obtain ⟨W4, eW4⟩ : ∃ W4, W4 = w3.alloc (.cells #[S [97], S [98], .bool false] 41) := ⟨_, rfl⟩
 rw [← eW4] at hb4 hF ⊢
 clear eW4
 have k0 : W4.cell? ⟨w3.heap.size, 0, none⟩ = some (S [97]) := hF.cell 0
 have k1 : W4.cell? ⟨w3.heap.size, 1, none⟩ = some (S [98]) := hF.cell 1
 have k2 : W4.cell? ⟨w3.heap.size, 2, none⟩ = some (.bool false) := hF.cell 2
 have hz := hb4.size
 go_wp2_with (at_builtin;go_must (refine wpList_appRd rfl _ _ 42 rfl w2.heap.size 41 (.agg #[.string ByteArray.empty, .string ByteArray.empty, .bool false]) 3 40 Tryz.underlying42 (by kernel_rfl) rfl (by decide) _ _ _ rfl (World.ownsRow_nil _ _ _ _) _ _ _ [S [97], S [98], .bool false] rfl (Rd.lit W4 41 #[S [97], S [98], .bool false] 3 1 rfl (by decide)) (by intro u hu;simp at hu;rcases hu with rfl | rfl | rfl <;> rfl) (by decide) (by decide) (by simp;omega) ?_);intro a5 c5 w5 hown5 hb5)
 rw [rounds_succ]
 go_wp2
 go_ret
 exact ⟨⟨a5, c5, rfl, hown5⟩, (hb4.alloc hz _).trans hb5⟩
set_option maxRecDepth 100000 in
set_option maxHeartbeats 4000000 in
theorem Rows_one {d t : Nat} (w : World) (hd : w.cell? ⟨d, 2, none⟩ = some (Ptr t)) (h : Tab1 w t) : Calls Tryz.prog 119 #[Ptr d] w fun e w' => (∃ a c, e = .returned (.slice a 1 c) ∧ w'.ownsRow w.heap.size 41 3 (.slice a 1 c) 1 [S [97], S [98], .bool false]) ∧ Below w.heap.size w w' := by
 have hL := rowsOf_one w h
 go_enter Tryz.func119, Tryz.ntmps119
 go_wp2_with (go_at_call 171;go_must ((with_reducible refine hL.mono ?_);rintro e w2 ⟨⟨a, c, rfl, hr⟩, hb⟩))
 go_ret
 exact ⟨⟨a, c, rfl, hr⟩, hb⟩
set_option maxRecDepth 100000 in
set_option maxHeartbeats 4000000 in
theorem rows_one {p d t : Nat} (w : World) (hp : w.cell? ⟨p, 5, none⟩ = some (Ptr d)) (hd : w.cell? ⟨d, 2, none⟩ = some (Ptr t)) (h : Tab1 w t) : Calls Tryz.prog 89 #[Ptr p] w fun e w' => e = .returned (.int .i64 34) ∧ Below w.heap.size w w' := by
 have hL := Rows_one w hd h
 go_enter Tryz.func89, Tryz.ntmps89
 go_wp2_with (go_at_call 119;go_must ((with_reducible refine hL.mono ?_);rintro e w2 ⟨⟨a, c, rfl, hr⟩, hb⟩;obtain ⟨g, rfl, hc⟩ := own_cell hr (by decide);have c0 : w2.cell? ⟨g, 0, none⟩ = some (S [97]) := hc 0 _ rfl;have c1 : w2.cell? ⟨g, 1, none⟩ = some (S [98]) := hc 1 _ rfl;have c2 : w2.cell? ⟨g, 2, none⟩ = some (.bool false) := hc 2 _ rfl;clear hc))
 refine wp_loop_rounds 2 ?_
 rw [rounds_succ]
 go_wp2
 rw [rounds_succ]
 go_wp2
 go_ret
 exact ⟨rfl, hb.alloc hb.size _⟩
end Go.Proofs.YtkeeofhjdffhbaaGreatDoor
namespace Go.Proofs
open Go.Shelf
def Tryz.lays160_ren : Go.Shelf.Ren := ⟨fun | 160 => 241 | 232 => 244 | 231 => 243 | 227 => 245 | 234 => 247 | 233 => 246 | 236 => 249 | 235 => 248 | 228 => 251 | 271 => 254 | 151 => 253 | 197 => 252 | 120 => 258 | 152 => 257 | 260 => 256 | 137 => 242 | 119 => 259 | 224 => 260 | 225 => 261 | 217 => 250 | 266 => 255 | n => n, fun | 9 => 9 | 4 => 4 | 3 => 3 | 5 => 5 | 117 => 329 | 116 => 328 | 0 => 0 | 124 => 332 | 21 => 21 | 105 => 333 | 46 => 205 | 119 => 337 | 139 => 340 | 138 => 339 | n => n, fun | 3 => 1 | 4 => 2 | n => n⟩
theorem Tryz.lays160 : Go.Proofs.Lays.n160 Tryz.prog Tryz.lays160_ren := {
 mixed := by kernel_rfl
 f119 := Tryz.func259.trans (congrArg some (by kernel_rfl))
 f120 := Tryz.func258.trans (congrArg some (by kernel_rfl))
 f137 := Tryz.func242.trans (congrArg some (by kernel_rfl))
 f151 := Tryz.func253.trans (congrArg some (by kernel_rfl))
 f152 := Tryz.func257.trans (congrArg some (by kernel_rfl))
 f160 := Tryz.func241.trans (congrArg some (by kernel_rfl))
 f197 := Tryz.func252.trans (congrArg some (by kernel_rfl))
 f217 := Tryz.func250.trans (congrArg some (by kernel_rfl))
 f224 := Tryz.func260.trans (congrArg some (by kernel_rfl))
 f225 := Tryz.func261.trans (congrArg some (by kernel_rfl))
 f227 := Tryz.func245.trans (congrArg some (by kernel_rfl))
 f228 := Tryz.func251.trans (congrArg some (by kernel_rfl))
 f231 := Tryz.func243.trans (congrArg some (by kernel_rfl))
 f232 := Tryz.func244.trans (congrArg some (by kernel_rfl))
 f233 := Tryz.func246.trans (congrArg some (by kernel_rfl))
 f234 := Tryz.func247.trans (congrArg some (by kernel_rfl))
 f235 := Tryz.func248.trans (congrArg some (by kernel_rfl))
 f236 := Tryz.func249.trans (congrArg some (by kernel_rfl))
 f260 := Tryz.func256.trans (congrArg some (by kernel_rfl))
 f266 := Tryz.func255.trans (congrArg some (by kernel_rfl))
 f271 := Tryz.func254.trans (congrArg some (by kernel_rfl))
 t0 := Tryz.underlying0
 a0 := Tryz.isAgg0
 z0 := Tryz.sizeOf0
 v0 := Tryz.zeroValue0
 t3 := Tryz.underlying3
 a3 := Tryz.isAgg3
 z3 := Tryz.sizeOf3
 v3 := Tryz.zeroValue3
 t4 := Tryz.underlying4
 a4 := Tryz.isAgg4
 z4 := Tryz.sizeOf4
 v4 := Tryz.zeroValue4
 t5 := Tryz.underlying5
 a5 := Tryz.isAgg5
 z5 := Tryz.sizeOf5
 v5 := Tryz.zeroValue5
 t9 := Tryz.underlying9
 a9 := Tryz.isAgg9
 z9 := Tryz.sizeOf9
 v9 := Tryz.zeroValue9
 t21 := Tryz.underlying21
 a21 := Tryz.isAgg21
 z21 := Tryz.sizeOf21
 v21 := Tryz.zeroValue21
 t46 := Tryz.underlying205
 a46 := Tryz.isAgg205
 z46 := Tryz.sizeOf205
 v46 := Tryz.zeroValue205
 t105 := Tryz.underlying333
 a105 := Tryz.isAgg333
 z105 := Tryz.sizeOf333
 v105 := Tryz.zeroValue333
 t116 := Tryz.underlying328
 a116 := Tryz.isAgg328
 z116 := Tryz.sizeOf328
 t117 := Tryz.underlying329
 a117 := Tryz.isAgg329
 z117 := Tryz.sizeOf329
 v117 := Tryz.zeroValue329
 t119 := Tryz.underlying337
 a119 := Tryz.isAgg337
 z119 := Tryz.sizeOf337
 t124 := Tryz.underlying332
 a124 := Tryz.isAgg332
 z124 := Tryz.sizeOf332
 v124 := Tryz.zeroValue332
 t138 := Tryz.underlying339
 a138 := Tryz.isAgg339
 z138 := Tryz.sizeOf339
 v138 := Tryz.zeroValue339
 t139 := Tryz.underlying340
 a139 := Tryz.isAgg340
 z139 := Tryz.sizeOf340
 v139 := Tryz.zeroValue340
 g3 := by kernel_rfl
 g4 := by kernel_rfl }
end Go.Proofs
namespace Go.Proofs.YtkeeofhjdffhbaaGreatDoor
open Go.RowKit Go.Dr
theorem or32n : ∀ n, n < 256 → 65 ≤ n → n ≤ 90 → bits .or .u8 ((n : Nat) : Int) 32 = (n : Int) + 32 := by decide +kernel
theorem or32 (c : UInt8) (h1 : 65 ≤ c.toNat) (h2 : c.toNat ≤ 90) : bits .or .u8 (c.toNat : Int) 32 = (c.toNat : Int) + 32 := or32n _ (UInt8.toNat_lt c) h1 h2
set_option maxHeartbeats 400000 in
theorem Lower_any (l : Bytes) (w : World) (hl : l.length ≤ maxLen) :
  Calls Tryz.prog 99 #[S l] w fun e w' => e = .returned (S (low l)) ∧ Below w.heap.size w w' := by
 unfold maxLen at hl
 obtain ⟨cap, w1, hrun, hcap, hrow, hbel, hsz⟩ := run_bytes_row (P := Tryz.prog) w 9 26 5 l Tryz.underlying9 Tryz.underlying26 Tryz.underlying5
 go_enter Tryz.func99, Tryz.ntmps99
 go_wp2
 clear hrun
 go_loopw [10] (fun i wr => ∃ k : Nat, k ≤ l.length ∧ i = .int .i64 k ∧ BRow wr 5 w.heap.size (lowTo l k) ∧ Below w.heap.size w wr) (fun i _ => l.length - (intOf i).toNat)
 case atStart => exact ⟨0, Nat.zero_le _, rfl, by rw [lowTo_zero];exact hrow, hbel⟩
 case round =>
  obtain ⟨k, hk, rfl, hrow, hbel⟩ := hrel
  by_cases hlt : k < l.length
  ·have c0 := hrow.cell k (by rw [lowTo_length];exact hlt)
   rw [lowTo_get l k hlt] at c0
   have f0 := hrow.free k (by rw [lowTo_length];exact hlt)
   by_cases h1 : 65 ≤ l[k].toNat
   ·by_cases h2 : l[k].toNat ≤ 90
    ·go_wp2
     go_roundw
     case rel =>
      refine ⟨k + 1, by omega, by go_num, ?_, hbel.setCell (Nat.le_refl _) _⟩
      rw [← lowTo_set l k hlt]
      have := hrow.set k (lowB l[k])
      rw [lowB_up _ h1 h2, ← or32 _ h1 h2] at this
      exact this
     case measure => simp [intOf];omega
    ·go_wp2
     go_roundw
     case rel => exact ⟨k + 1, by omega, by go_num, by rw [← lowTo_skip l k hlt (lowB_no _ (by omega))];exact hrow, hbel⟩
     case measure => simp [intOf];omega
   ·go_wp2
    go_roundw
    case rel => exact ⟨k + 1, by omega, by go_num, by rw [← lowTo_skip l k hlt (lowB_no _ (by omega))];exact hrow, hbel⟩
    case measure => simp [intOf];omega
  ·have hc := run_string_row (P := Tryz.prog) wr 26 9 5 w.heap.size cap (lowTo l k) Tryz.underlying26 Tryz.underlying5 Tryz.underlying9 hrow
   rw [lowTo_length, lowTo_all l k (by omega)] at hc
   go_wp2
   go_ret
   exact ⟨rfl, hbel⟩
theorem trimS_eq (l : Bytes) : Lib.trimS l [32, 9] = trim l := by
 have e : (fun c : UInt8 => [32, 9].contains c) = isBlank := by
  funext c
  by_cases h1 : c = 32 <;> by_cases h2 : c = 9 <;> simp [isBlank, h1, h2]
 rw [trim, ← trim_comm]
 simp only [Lib.trimS, Lib.trimLeftS, Lib.trimRightS, e]
 rfl
set_option maxHeartbeats 400000 in
theorem Trim_any (l : Bytes) (w : World) (hl : l.length ≤ maxLen) :
  Calls Tryz.prog 235 #[S l] w fun e w' => e = .returned (S (trim l)) ∧ Below w.heap.size w w' := by
 unfold maxLen at hl
 have hcon := Any.strings_Trim_laid Tryz.lays160 (by kernel_rfl) ⟨l.toArray⟩ ⟨#[32, 9]⟩ w (by show l.length ≤ _;omega) (by decide) (ascii_of_all (by decide))
 change Calls Tryz.prog 241 _ _ (fun e w' => e = .returned (.string ⟨(Lib.trimS l [32, 9]).toArray⟩) ∧ Below w.heap.size w w') at hcon
 rw [trimS_eq] at hcon
 have HC := Lib.hid hcon
 clear hcon
 go_enter Tryz.func235, Tryz.ntmps235
 go_wp2_with (go_at_call 241;refine HC.out.mono ?_;rintro e w' ⟨rfl, hB⟩)
 go_ret
 exact ⟨rfl, hB⟩
end Go.Proofs.YtkeeofhjdffhbaaGreatDoor
namespace Go.Proofs.YtkeeofhjdffhbaaGreatDoor
open Go.RowKit Go.Dr
end Go.Proofs.YtkeeofhjdffhbaaGreatDoor
