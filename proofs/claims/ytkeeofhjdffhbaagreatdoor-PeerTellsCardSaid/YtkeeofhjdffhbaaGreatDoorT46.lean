/- Parts of the proof of pt_root: the texts Enc6 Enc7 EncA. -/
import Derived.Test.YtkeeofhjdffhbaaGreatDoorT45
set_option linter.unusedSimpArgs false
set_option linter.unusedVariables false
set_option linter.unnecessarySimpa false
namespace Go.Proofs.YtkeeofhjdffhbaaGreatDoor
open Go.RowKit Go.Dr
/-- the fixed rows, as fields -/
def statF : List F := statL.map fun p => ⟨p.1, p.2, false⟩
theorem statF_length : statF.length = 61 := by decide +kernel
theorem statF_cells : fcells statF = refC.toList := by kernel_rfl
set_option maxRecDepth 100000 in
set_option maxHeartbeats 4000000 in
theorem refFind_all {eb : Nat} {rv : Value} (rows all : List F) (HA : Hid (all = statF ++ rows)) (f : F) (w : World) (h4 : w.cell? ⟨eb, 4, none⟩ = some rv) (hR : Fs w.heap.size w rv rows) (hrl : rows.length ≤ 1000000) (heb : eb < w.heap.size) :
  Calls Tryz.prog 43 #[.pointer (some ⟨eb, 3, none⟩), .agg #[S f.n, S f.v, .bool f.m]] w fun e w' => e = .returned (.tuple #[.int .i64 ((findR f.n f.v all 0 0).1 : Nat), .bool (findR f.n f.v all 0 0).2]) ∧ Below w.heap.size w w' := by
 obtain ⟨W, eW⟩ : ∃ W, W = w.alloc (.cells #[S f.n, S f.v, .bool f.m] 41) := ⟨_, rfl⟩
 have hb : Below w.heap.size w W := by rw [eW];exact (Below.refl _ _).alloc (Nat.le_refl _) _
 have hF : Blk W w.heap.size 41 #[S f.n, S f.v, .bool f.m] := by rw [eW];exact Blk.new _ _ _
 have hWl := hF.lt
 obtain ⟨ra, rc, rfl, -⟩ := hR.form
 have x4 : W.cell? ⟨eb, 4, none⟩ = some (.slice ra rows.length rc) := by rw [hb.cell (p := ⟨eb, 4, none⟩) heb];exact h4
 have x4a : ∀ ob, (W.alloc ob).cell? ⟨eb, 4, none⟩ = some (.slice ra rows.length rc) := fun ob => by rw [((Below.refl W.heap.size W).alloc (Nat.le_refl _) ob).cell (p := ⟨eb, 4, none⟩) (by show eb < _;omega)];exact x4
 have hO : (W.drew.alloc (.cells refC 41)).ownsRow W.heap.size 41 3 (.slice (some ⟨W.drew.heap.size, 0, none⟩) 61 61) 61 refC.toList := World.ownsRow_lit (base := W.heap.size) (e := 41) (size := 3) W.drew refC 61 (Nat.le_refl _) (by decide) (by kernel_rfl)
 have hS : Fs W.heap.size (W.drew.alloc (.cells refC 41)) (.slice ra rows.length rc) rows := ((hR.below hb).mono hb.size).below ((Below.refl _ _).drew.alloc (Nat.le_refl _) _)
 have hN : 61 + rows.length ≤ 9223372036854775807 := by omega
 go_enter Tryz.func43, Tryz.ntmps43
 go_upto_region 1 with fail
 rw [← eW]
 clear eW
 go_cut [6] (fun s6 wx => ∃ a c, s6 = .slice a (61 + rows.length) c ∧ Fs wx.heap.size wx (.slice a (61 + rows.length) c) all ∧ Blk wx w.heap.size 41 #[S f.n, S f.v, .bool f.m] ∧ Below w.heap.size w wx)
 case first =>
  go_region_law (first
   | (go_simp;go_at_call 81;(with_reducible refine (rStatic _).mono ?_);rintro e w2 ⟨rfl, hw2⟩)
   | (refine step_of ?_ (by rfl);refine wp_appG _ _ 42 rfl W.heap.size 41 (.agg #[.string ByteArray.empty, .string ByteArray.empty, .bool false]) 3 40 Tryz.underlying42 (by kernel_rfl) rfl (by decide) _ _ _ rfl hO _ _ _ (fcells rows) rfl hS (fcells_one _) (by unfold maxLen;omega) (by omega) (by simp) ?_;intro a3 c3 w3 hown3 hb3 hg3))
  all_goals (
   go_wp2
   go_meet
   refine ⟨a3, c3, rfl, ?_, Blk.below (hF.alloc _).drew hb3 hWl, (hb.alloc hb.size _).drew.trans (hb3.mono hb.size)⟩
   have h1 := Rd.own hown3
   unfold Fs
   rw [HA.out, fcells_append, statF_cells, List.length_append, statF_length]
   exact h1)
 case rest =>
  obtain ⟨a, c, rfl, hL, hB, hw⟩ := hcut
  clear hS hO x4 x4a hF hb hWl h4 hR
  have hlen : all.length = 61 + rows.length := by rw [HA.out, List.length_append, statF_length]
  rw [← hlen] at hL ⊢
  rw [← hlen] at hN
  clear hlen
  obtain ⟨w3, rfl⟩ : ∃ w3, w3 = wc := ⟨_, rfl⟩
  go_wp2
  go_loopw [7, 8] (fun near i wr => ∃ k m : Nat, k ≤ all.length ∧ i = .int .i64 (k : Int) ∧ near = .int .i64 (m : Int) ∧ m ≤ k ∧ Hid (findR f.n f.v all 0 0 = findR f.n f.v (all.drop k) k m) ∧ Below w3.heap.size w3 wr) (fun _ i _ => all.length - (intOf i).toNat)
  case atStart => exact ⟨0, 0, Nat.zero_le _, rfl, rfl, Nat.le_refl _, rfl, Below.refl _ _⟩
  case round =>
   obtain ⟨k, m, hk, rfl, rfl, hm, HI, hbr⟩ := hrel
   have hBr := hB.on hbr
   have b0 : wr.cell? ⟨w.heap.size, 0, none⟩ = some (S f.n) := hBr.cell 0
   have b1 : wr.cell? ⟨w.heap.size, 1, none⟩ = some (S f.v) := hBr.cell 1
   by_cases hlt : k < all.length
   ·obtain ⟨g, off, rfl, hg, e0, e1, e2⟩ := (hL.below hbr).at k hlt
    cases h1 : (all[k].n == f.n) with
    | true =>
     have h1n : (all[k].n != f.n) = false := by rw [bne, h1];rfl
     cases h2 : (all[k].v == f.v) with
     | true =>
      have HE := Lib.hid (findR_hit f.n f.v all k m hlt h1 h2)
      go_wp2
      go_region
      go_wp2
      go_region
      go_wp2
      go_ret2
      exact ⟨by rw [HI.out, HE.out];rfl, (hw.trans (hbr.mono hw.size)).drew.drew⟩
     | false =>
      have HE := Lib.hid (findR_near f.n f.v all k m hlt h1 h2)
      by_cases hm0 : m = 0
      ·subst hm0
       go_wp2
       go_region
       go_wp2
       go_region
       go_wp2
       go_roundw
       case rel => exact ⟨k + 1, k + 1, hlt, by go_num, by go_num, Nat.le_refl _, Lib.hid (by rw [HI.out];exact HE.out), hbr.drew.drew⟩
       case measure => simp [intOf];omega
      ·have hm1 : ((m : Int) == 0) = false := by simp;omega
       have HM := Lib.hid hm0
       clear hm0
       go_wp2
       go_region
       go_wp2
       go_region
       go_wp2
       go_roundw
       case rel => exact ⟨k + 1, m, hlt, by go_num, rfl, by omega, Lib.hid (by rw [HI.out, HE.out, if_neg HM.out]), hbr.drew.drew⟩
       case measure => simp [intOf];omega
    | false =>
     have h1n : (all[k].n != f.n) = true := by rw [bne, h1];rfl
     have HE := Lib.hid (findR_skip f.n f.v all k m hlt h1)
     go_wp2
     go_region
     go_wp2
     go_roundw
     case rel => exact ⟨k + 1, m, hlt, by go_num, rfl, by omega, Lib.hid (by rw [HI.out, HE.out]), hbr.drew⟩
     case measure => simp [intOf];omega
   ·have HE := Lib.hid (findR_end f.n f.v all k m (by omega))
    go_wp2
    go_ret2
    exact ⟨by rw [HI.out, HE.out];rfl, hw.trans (hbr.mono hw.size)⟩
theorem refFind_any {eb : Nat} {rv : Value} (rows : List F) (f : F) (w : World) (h4 : w.cell? ⟨eb, 4, none⟩ = some rv) (hR : Fs w.heap.size w rv rows) (hrl : rows.length ≤ 1000000) (heb : eb < w.heap.size) :
  Calls Tryz.prog 43 #[.pointer (some ⟨eb, 3, none⟩), .agg #[S f.n, S f.v, .bool f.m]] w fun e w' => e = .returned (.tuple #[.int .i64 ((findR f.n f.v (statF ++ rows) 0 0).1 : Nat), .bool (findR f.n f.v (statF ++ rows) 0 0).2]) ∧ Below w.heap.size w w' :=
 refFind_all rows _ (Lib.hid rfl) f w h4 hR hrl heb
end Go.Proofs.YtkeeofhjdffhbaaGreatDoor
namespace Go.Dr
open Go.Proofs.YtkeeofhjdffhbaaGreatDoor
end Go.Dr
namespace Go.Proofs.YtkeeofhjdffhbaaGreatDoor
open Go.RowKit Go.Dr
set_option maxRecDepth 100000 in
set_option maxHeartbeats 4000000 in
theorem rCost_any (f : F) (hn : f.n.length ≤ 1048576) (hv : f.v.length ≤ 1048576) (w : World) : Calls Tryz.prog 44 #[.agg #[S f.n, S f.v, .bool f.m]] w fun e w' => e = .returned (.int .i64 ((f.n.length + f.v.length + 32 : Nat) : Int)) ∧ Below w.heap.size w w' := by
 have hA := Blk.new w 41 #[S f.n, S f.v, .bool f.m]
 have a0 := hA.cell 0
 have a1 := hA.cell 1
 go_enter Tryz.func44, Tryz.ntmps44
 go_wp2
 go_ret
 exact ⟨ret_int (by omega), (Below.refl _ _).alloc (Nat.le_refl _) _⟩
end Go.Proofs.YtkeeofhjdffhbaaGreatDoor
namespace Go.Proofs.YtkeeofhjdffhbaaGreatDoor
open Go Go.RowKit Go.Dr
set_option maxRecDepth 100000 in
set_option maxHeartbeats 4000000 in
theorem rSize_nil {eb : Nat} (w : World) (h4 : w.cell? ⟨eb, 4, none⟩ = some (.slice none 0 0)) : Calls Tryz.prog 84 #[.pointer (some ⟨eb, 3, none⟩)] w fun e w' => e = .returned (.int .i64 0) ∧ w' = w := by
 go_enter Tryz.func84, Tryz.ntmps84
 go_wp2
 refine wp_loop_rounds 1 ?_
 rw [rounds_succ]
 go_wp2
 go_ret
 exact ⟨rfl, rfl⟩
theorem rCost_ab (w : World) : Calls Tryz.prog 44 #[.agg abF] w fun e w' => e = .returned (.int .i64 34) ∧ Below w.heap.size w w' := rCost_any fAb (by decide) (by decide) w
set_option maxRecDepth 100000 in
set_option maxHeartbeats 4000000 in
theorem rAdd_ab {eb : Nat} {c0 c1 c2 : Value} (w : World) (hE : Blk w eb 109 #[c0, c1, c2, .int .i64 4096, .slice none 0 0]) : Calls Tryz.prog 46 #[.pointer (some ⟨eb, 3, none⟩), .agg abF] w fun e w' => e = .returned (.tuple #[]) ∧ But (fun k => k = eb) w w' := by
 obtain ⟨W, eW⟩ : ∃ W, W = w.alloc (.cells abF 41) := ⟨_, rfl⟩
 have hb : Below w.heap.size w W := by rw [eW];exact (Below.refl _ _).alloc (Nat.le_refl _) _
 have hF : Blk W w.heap.size 41 abF := by rw [eW];exact Blk.new _ _ _
 have hEW := hE.on hb
 have hel := hE.lt
 have y3 : W.cell? ⟨eb, 3, none⟩ = some (.int .i64 4096) := hEW.cell 3
 have a0 : W.cell? ⟨w.heap.size, 0, none⟩ = some (S [97]) := hF.cell 0
 have a1 : W.cell? ⟨w.heap.size, 1, none⟩ = some (S [98]) := hF.cell 1
 have a2 : W.cell? ⟨w.heap.size, 2, none⟩ = some (.bool false) := hF.cell 2
 go_enter Tryz.func46, Tryz.ntmps46
 go_upto_region 1 with fail
 rw [← eW]
 clear eW
 go_cut [10] (fun sx wx => sx = .bool false ∧ Below W.heap.size W wx)
 case first =>
  go_region_held3 (fun X => X.cell? ⟨eb, 3, none⟩ = some (.int .i64 4096) ∧ X.cell? ⟨w.heap.size, 0, none⟩ = some (S [97]) ∧ X.cell? ⟨w.heap.size, 1, none⟩ = some (S [98]) ∧ X.cell? ⟨w.heap.size, 2, none⟩ = some (.bool false))
   (first | go_keep)
   ((go_at_call 44;go_must ((with_reducible refine (rCost_ab _).mono ?_);rintro e w2 ⟨rfl, hb2⟩;replace hb2 : Below W.heap.size W w2 := (Below.refl _ _).drew.trans hb2;have q3 : w2.cell? ⟨eb, 3, none⟩ = some (.int .i64 4096) := (hEW.on hb2).cell 3;have q0 : w2.cell? ⟨w.heap.size, 0, none⟩ = some (S [97]) := (hF.on hb2).cell 0;have q1 : w2.cell? ⟨w.heap.size, 1, none⟩ = some (S [98]) := (hF.on hb2).cell 1;have q2 : w2.cell? ⟨w.heap.size, 2, none⟩ = some (.bool false) := (hF.on hb2).cell 2)))
  all_goals (go_wp2;go_meet;exact ⟨rfl, hb2⟩)
 case rest =>
  obtain ⟨rfl, hb2⟩ := hcut
  obtain ⟨W2, rfl⟩ : ∃ W2, W2 = wc := ⟨_, rfl⟩
  clear y3 a0 a1 a2
  have hE2 := hEW.on hb2
  have hF2 := hF.on hb2
  have hw2 := hb.trans (hb2.mono hb.size)
  clear hEW hF hb hb2
  go_wp2
  refine wp_loop_rounds 1 ?_
  rw [rounds_succ]
  go_upto_region 3 with fail
  go_cut [23] (fun sx wx => sx = .bool false ∧ Below W2.heap.size W2 wx)
  case first =>
   have y3 : W2.cell? ⟨eb, 3, none⟩ = some (.int .i64 4096) := hE2.cell 3
   have y4 : W2.cell? ⟨eb, 4, none⟩ = some (.slice none 0 0) := hE2.cell 4
   have a0 : W2.cell? ⟨w.heap.size, 0, none⟩ = some (S [97]) := hF2.cell 0
   have a1 : W2.cell? ⟨w.heap.size, 1, none⟩ = some (S [98]) := hF2.cell 1
   have a2 : W2.cell? ⟨w.heap.size, 2, none⟩ = some (.bool false) := hF2.cell 2
   have hSz := rSize_nil (eb := eb) W2.drew (show W2.drew.cell? ⟨eb, 4, none⟩ = some (.slice none 0 0) from y4)
   go_region_held3 (fun X => X.cell? ⟨eb, 3, none⟩ = some (.int .i64 4096) ∧ X.cell? ⟨w.heap.size, 0, none⟩ = some (S [97]) ∧ X.cell? ⟨w.heap.size, 1, none⟩ = some (S [98]) ∧ X.cell? ⟨w.heap.size, 2, none⟩ = some (.bool false))
    (first | go_keep)
    (first
     | (go_at_call 84;go_must ((with_reducible refine hSz.mono ?_);rintro e w2 ⟨rfl, e2⟩;subst e2))
     | (go_at_call 44;go_must ((with_reducible refine (rCost_ab _).mono ?_);rintro e w3 ⟨rfl, hb3⟩;replace hb3 : Below W2.heap.size W2 w3 := (Below.refl _ _).drew.trans hb3;have q3 : w3.cell? ⟨eb, 3, none⟩ = some (.int .i64 4096) := (hE2.on hb3).cell 3;have q0 : w3.cell? ⟨w.heap.size, 0, none⟩ = some (S [97]) := (hF2.on hb3).cell 0;have q1 : w3.cell? ⟨w.heap.size, 1, none⟩ = some (S [98]) := (hF2.on hb3).cell 1;have q2 : w3.cell? ⟨w.heap.size, 2, none⟩ = some (.bool false) := (hF2.on hb3).cell 2)))
   all_goals (go_wp2;go_meet;exact ⟨rfl, hb3⟩)
  case rest =>
   obtain ⟨rfl, hb3⟩ := hcut
   obtain ⟨W3, rfl⟩ : ∃ W3, W3 = wc := ⟨_, rfl⟩
   have hE3 := hE2.on hb3
   have hF3 := hF2.on hb3
   have hw3 := hw2.trans (hb3.mono hw2.size)
   clear hE2 hF2 hw2 hb3
   have y4 : W3.cell? ⟨eb, 4, none⟩ = some (.slice none 0 0) := hE3.cell 4
   have y4a : ∀ ob, (W3.alloc ob).cell? ⟨eb, 4, none⟩ = some (.slice none 0 0) := fun ob => (hE3.alloc ob).cell 4
   have a0 : W3.cell? ⟨w.heap.size, 0, none⟩ = some (S [97]) := hF3.cell 0
   have a1 : W3.cell? ⟨w.heap.size, 1, none⟩ = some (S [98]) := hF3.cell 1
   have a0a : ∀ ob, (W3.alloc ob).cell? ⟨w.heap.size, 0, none⟩ = some (S [97]) := fun ob => (hF3.alloc ob).cell 0
   have a1a : ∀ ob, (W3.alloc ob).cell? ⟨w.heap.size, 1, none⟩ = some (S [98]) := fun ob => (hF3.alloc ob).cell 1
   have hz := hw3.size
   go_wp2
   have f4a : ∀ ob, (W3.alloc ob).frozen? ⟨eb, 4, none⟩ = false := fun ob => (hE3.alloc ob).free 4
   go_region
   all_goals go_wp2
   all_goals go_end0
   all_goals exact ⟨rfl, (((But.of_below (S := fun k => k = eb) hw3).alloc _).setCell (p := ⟨eb, 4, none⟩) (.inl rfl) _).drew⟩
end Go.Proofs.YtkeeofhjdffhbaaGreatDoor
