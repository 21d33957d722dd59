/- Parts of the proof of pt_root: the texts Per2 Per3. -/
import Derived.Test.YtkeeofhjdffhbaaGreatDoorT13
import Derived.Test.YtkeeofhjdffhbaaGreatDoorT11
set_option linter.unusedSimpArgs false
set_option linter.unusedVariables false
set_option linter.unnecessarySimpa false
namespace Go.Proofs.YtkeeofhjdffhbaaGreatDoor
open Go.RowKit Go.Dr
/-- 'm[i]' -/
theorem PMap.get {P : Program} {kt et t : TypeId} {w : World} {m : Nat} {l : List (Int × Nat)} (h : PMap P kt w m l) (hk : P.underlying kt = some (.int .i64)) (ht : P.underlying t = some (.map kt et)) (hz : (zeroValue et).run P w = .ok (.pointer none) w) (i : Int) (hw : (Lit.int .i64 i).wf = true) :
  (∃ b, (i, b) ∈ l ∧ (Instr.lookup t (.map (some m)) (.int .i64 i) false).run P w = .ok (Ptr b) w) ∨ ((∀ p ∈ l, p.1 ≠ i) ∧ (Instr.lookup t (.map (some m)) (.int .i64 i) false).run P w = .ok (.pointer none) w) := by
 obtain ⟨D, h1, h2, h3, h4, h5, h6, h7⟩ := h
 obtain ⟨v, ps, hrun, hv⟩ := h1.lookup (Maps.int_keyed hk) ht hz (zd := .nil) (zp := []) rfl (Maps.keyOf_int_mk hk hw)
 cases hh : Maps.has D (.int .i64 i) with
 | true =>
  rw [h6, List.any_eq_true] at hh
  obtain ⟨p, hm, e⟩ := hh
  obtain rfl : p.1 = i := by simpa using e
  rw [h7 p hm] at hv
  have hv := Rp_inv hv
  subst hv
  exact .inl ⟨p.2, hm, hrun⟩
 | false =>
  rw [Maps.atKey_of_not_has hh] at hv
  have hv := Rp_nil hv
  subst hv
  refine .inr ⟨fun p hm e => ?_, hrun⟩
  rw [h6] at hh
  have := List.any_eq_false.1 hh p hm
  simp [e] at this
theorem zeroSide (w : World) : (zeroValue 119).run Tryz.prog w = .ok (.pointer none) w := by kernel_rfl
theorem none_look {w : World} {m : Nat} (h : w.heap[m]? = some (.map #[] 0)) (i : Int) (hw : (Lit.int .i64 i).wf = true) : (Instr.lookup 90 (.map (some m)) (.int .i64 i) false).run Tryz.prog w = .ok (.pointer none) w := by
 rcases PMap.get (PMap.made (P := Tryz.prog) (kt := 3) h) (t := 90) Tryz.underlying3 Tryz.underlying90 (zeroSide w) i hw with ⟨b, hm, -⟩ | ⟨-, e⟩
 ·cases hm
 ·exact e
set_option maxRecDepth 100000 in
set_option maxHeartbeats 4000000 in
theorem streams_none {vout vin voff vdec vpings vorder vblock : Value} {all beg frames tab sts last of away bad : Int} {first ends closed : Bool} {p m : Nat} {fl st pad code la inc dep wt xc xs : Int} {sole xi : Bool} {da : Bytes} {sa : Option Addr} {sn sc : Nat} (w : World) (hst : (Lit.int .i64 st).wf = true) (hm : w.heap[m]? = some (.map #[] 0))
  (h : Blk w p 97 #[vout, vin, .int .i64 all, .int .i64 beg, voff, vdec, .int .i64 frames, .int .i64 tab, .int .i64 sts, vpings, .int .i64 last, .map (some m), vorder, .bool first, .int .i64 of, .bool ends, vblock, .int .i64 away, .bool closed, .int .i64 bad]) :
  Calls Tryz.prog 51 #[Ptr p, .agg #[.int .i64 0, .int .i64 fl, .int .i64 st, S da, .int .i64 pad, .slice sa sn sc, .int .i64 code, .int .i64 la, .int .i64 inc, .int .i64 dep, .int .i64 wt, .bool sole, .bool xi, .int .i64 xc, .int .i64 xs]] w fun e w' => e = .returned (.int .i64 241) ∧ Below w.heap.size w w' := by
 obtain ⟨W, eW⟩ : ∃ W, W = (w.alloc (.cells #[.int .i64 0, .int .i64 fl, .int .i64 st, S da, .int .i64 pad, .slice sa sn sc, .int .i64 code, .int .i64 la, .int .i64 inc, .int .i64 dep, .int .i64 wt, .bool sole, .bool xi, .int .i64 xc, .int .i64 xs] 74)).alloc (.cells #[.int .i64 0, .int .i64 fl, .int .i64 st, S da, .int .i64 pad, .slice sa sn sc, .int .i64 code, .int .i64 la, .int .i64 inc, .int .i64 dep, .int .i64 wt, .bool sole] 34) := ⟨_, rfl⟩
 have hb : Below w.heap.size w W := by rw [eW];exact ((Below.refl _ _).alloc (Nat.le_refl _) _).alloc (by simp) _
 have hW : W.heap[m]? = some (.map #[] 0) := (hb.block m (Array.getElem?_eq_some_iff.1 hm).1).trans hm
 have hF : Blk W (w.heap.size + 1) 34 #[.int .i64 0, .int .i64 fl, .int .i64 st, S da, .int .i64 pad, .slice sa sn sc, .int .i64 code, .int .i64 la, .int .i64 inc, .int .i64 dep, .int .i64 wt, .bool sole] := by rw [eW, ← World.size_alloc];exact Blk.new _ _ _
 have hP := h.on hb
 have y11 : W.cell? ⟨p, 11, none⟩ = some (.map (some m)) := hP.cell 11
 have u0 : W.cell? ⟨w.heap.size + 1, 0, none⟩ = some (.int .i64 0) := hF.cell 0
 have u1 : W.cell? ⟨w.heap.size + 1, 1, none⟩ = some (.int .i64 fl) := hF.cell 1
 have u2 : W.cell? ⟨w.heap.size + 1, 2, none⟩ = some (.int .i64 st) := hF.cell 2
 have k1 := none_look hW st hst
 have k2 := none_look (show W.drew.heap[m]? = some (.map #[] 0) from hW) st hst
 go_enter Tryz.func51, Tryz.ntmps51
 go_upto_region 10 with fail
 rw [← eW]
 clear eW
 go_region_with (fail)
 all_goals go_wp2
 all_goals go_ret
 all_goals exact ⟨rfl, hb.drew⟩
end Go.Proofs.YtkeeofhjdffhbaaGreatDoor
namespace Go.Proofs.YtkeeofhjdffhbaaGreatDoor
open Go.RowKit Go.Dr
theorem obj_alloc {w : World} {b : Nat} {o' : Obj} (h : w.heap[b]? = some o') (o : Obj) : (w.alloc o).heap[b]? = some o' := (Below.heap_alloc w o b (Array.getElem?_eq_some_iff.1 h).1).trans h
theorem obj_new (w : World) (o : Obj) (g : Nat) (hg : w.heap.size = g) : (w.alloc o).heap[g]? = some o := by subst hg;exact heap_alloc_new w o
theorem obj_below {B : Nat} {w w' : World} {b : Nat} {o' : Obj} (h : w.heap[b]? = some o') (hb : Below B w w') (hB : b < B) : w'.heap[b]? = some o' := (hb.block b hB).trans h
/-- a table in memory that holds nothing -/
structure Tbl0 (w : World) (t : Nat) : Prop where
 m1 : w.heap[t - 2]? = some (.map #[] 0)
 m2 : w.heap[t - 1]? = some (.map #[] 0)
 blk : Blk w t 210 #[.int .i64 4096, .int .i64 0, .slice none 0 0, .int .i64 0, .map (some (t - 2)), .map (some (t - 1))]
set_option maxRecDepth 100000 in
set_option maxHeartbeats 4000000 in
theorem TblNew_any (w : World) : Calls Tryz.prog 72 #[.int .i64 4096] w fun e w' => e = .returned (.tuple #[Ptr (w.heap.size + 2), .int .i64 0]) ∧ Below w.heap.size w w' ∧ w.heap.size + 2 < w'.heap.size ∧ Tbl0 w' (w.heap.size + 2) := by
 have hmm := @run_makeMap Tryz.prog
 go_enter Tryz.func72, Tryz.ntmps72
 go_wp2
 go_ret2
 refine ⟨rfl, ((((Below.refl _ _).alloc (Nat.le_refl _) _).alloc (by simp) _).alloc (by simp;omega) _), by simp, ⟨?_, ?_, ?_⟩⟩
 ·exact obj_alloc (obj_alloc (obj_new w _ _ rfl) _) _
 ·exact obj_alloc (obj_new _ _ _ (by simp)) _
 ·exact obj_new _ _ _ (by simp)
set_option maxRecDepth 100000 in
set_option maxHeartbeats 4000000 in
theorem DecNew_any (w : World) : Calls Tryz.prog 35 #[.int .i64 65536, .int .i64 1099511627776] w fun e w' => ∃ d t, e = .returned (.tuple #[Ptr d, .int .i64 0]) ∧ Below w.heap.size w w' ∧ w.heap.size ≤ t - 2 ∧ t < d ∧ d < w'.heap.size ∧ Tbl0 w' t ∧ Blk w' d 163 #[.int .i64 65536, .int .i64 1099511627776, Ptr t, .bool false] := by
 go_enter Tryz.func35, Tryz.ntmps35
 go_wp2_with (go_at_call 72;refine (TblNew_any _).mono ?_;rintro e w3 ⟨rfl, hb3, hs3, hT⟩)
 go_ret2
 exact ⟨_, _, rfl, hb3.alloc hb3.size _, by omega, hs3, by simp, ⟨obj_alloc hT.m1 _, obj_alloc hT.m2 _, hT.blk.alloc _⟩, obj_new _ _ _ rfl⟩
theorem peer_made (w : World) (va vb : Value) (t : TypeId) (g : Nat) (hg : w.heap.size = g) :
  let W := ((w.alloc (.map #[] 0)).alloc (.cells #[va, vb, .int .i64 65535, .int .i64 65535, .map (some (g + 1 + 1)), .pointer none, .int .i64 16384, .int .i64 4096, .int .i64 0, .slice none 0 0, .int .i64 0, .map (some g), .slice none 0 0, .bool true, .int .i64 0, .bool false, .slice none 0 0, .int .i64 2147483647, .bool false, .int .i64 0] t)).alloc (.map #[] 0)
  Blk W (g + 1) t #[va, vb, .int .i64 65535, .int .i64 65535, .map (some (g + 1 + 1)), .pointer none, .int .i64 16384, .int .i64 4096, .int .i64 0, .slice none 0 0, .int .i64 0, .map (some g), .slice none 0 0, .bool true, .int .i64 0, .bool false, .slice none 0 0, .int .i64 2147483647, .bool false, .int .i64 0] ∧ W.heap[g]? = some (.map #[] 0) ∧ W.heap[g + 1 + 1]? = some (.map #[] 0) ∧ W.heap.size = g + 3 ∧ Below g w W := by
 subst hg
 refine ⟨(bnew_at (w.alloc (.map #[] 0)) t _ (w.heap.size + 1) (by simp)).alloc _, obj_alloc (obj_alloc (obj_new w _ _ rfl) _) _, obj_new _ _ _ (by simp), by simp, ?_⟩
 exact (((Below.refl _ _).alloc (Nat.le_refl _) _).alloc (by simp) _).alloc (by simp;omega) _
/-- a peer for which no stream began, nothing left over;its blocks lie from B on -/
structure Peer0 (w : World) (B p : Nat) (first : Bool) (away bad : Int) : Prop where
 ex : ∃ fo fi m o d, B ≤ fo ∧ B ≤ fi ∧ B ≤ m ∧ B ≤ o ∧ B ≤ d ∧ B ≤ p ∧ fo ≠ fi ∧ Blk w fo 158 (feedC 16384 0 (.slice none 0 0) false) ∧ Blk w fi 158 (feedC 16777215 24 (.slice none 0 0) false) ∧ w.heap[m]? = some (.map #[] 0) ∧ w.heap[o]? = some (.map #[] 0) ∧
  Blk w p 97 #[Ptr fo, Ptr fi, .int .i64 65535, .int .i64 65535, .map (some o), Ptr d, .int .i64 16384, .int .i64 4096, .int .i64 0, .slice none 0 0, .int .i64 0, .map (some m), .slice none 0 0, .bool first, .int .i64 0, .bool false, .slice none 0 0, .int .i64 away, .bool false, .int .i64 bad]
set_option maxRecDepth 100000 in
set_option maxHeartbeats 4000000 in
theorem PeerNew_any (w : World) : Calls Tryz.prog 7 #[] w fun e w' => ∃ p, e = .returned (Ptr p) ∧ Below w.heap.size w w' ∧ Peer0 w' w.heap.size p true 2147483647 0 := by
 have hmm := @run_makeMap Tryz.prog
 have hI := fun w => (show Calls Tryz.prog 34 #[.int .i64 16384, .bool true] w (fun e w' => e = .returned (Ptr w.heap.size) ∧ Blk w' w.heap.size 158 (feedC 16384 0 (.slice none 0 0) false) ∧ Below w.heap.size w w') from ChNew_any 16384 true w (by decide))
 have hJ := fun w => (show Calls Tryz.prog 34 #[.int .i64 16777215, .bool false] w (fun e w' => e = .returned (Ptr w.heap.size) ∧ Blk w' w.heap.size 158 (feedC 16777215 24 (.slice none 0 0) false) ∧ Below w.heap.size w w') from ChNew_any 16777215 false w (by decide))
 go_enter Tryz.func7, Tryz.ntmps7
 go_wp2_with (first
  | (go_at_call 35;(with_reducible refine (DecNew_any _).mono ?_);rintro e w5 ⟨d, t, rfl, hb5, ht5, htd5, hd5, hT5, hD5⟩;obtain ⟨q1, q2, q3, q4, q5⟩ := peer_made w4 (Ptr w.heap.size) (Ptr w3.heap.size) 97 w4.heap.size rfl;have p1 := q1.on hb5;have p5 : w5.cell? ⟨w4.heap.size + 1, 5, none⟩ = some (.pointer none) := p1.cell 5;have p6 := p1.free 5;have m1 := obj_below q2 hb5 (Array.getElem?_eq_some_iff.1 q2).1;have m2 := obj_below q3 hb5 (Array.getElem?_eq_some_iff.1 q3).1)
  | (go_at_call 34;(with_reducible refine (hJ _).mono ?_);rintro e w4 ⟨rfl, hI4, hb4⟩)
  | (go_at_call 34;(with_reducible refine (hI _).mono ?_);rintro e w3 ⟨rfl, hI3, hb3⟩))
 go_ret
 have s3 := hI3.lt
 have s4 := hI4.lt
 have hs3 := hb3.size
 have hs4 := hb4.size
 have hs5 := hb5.size
 rw [q4] at hs5 ht5
 refine ⟨_, rfl, ?_, ⟨⟨w.heap.size, w3.heap.size, w4.heap.size, w4.heap.size + 1 + 1, d, Nat.le_refl _, hs3, by omega, by omega, by omega, by omega, by omega, ?_, ?_, ?_, ?_, ?_⟩⟩⟩
 ·refine Below.setCell (((hb3.trans (hb4.mono hs3)).trans (q5.mono (by omega))).trans (hb5.mono (by rw [q4];omega))) (by show w.heap.size ≤ w4.heap.size + 1;omega) _
 ·exact ((((hI3.on hb4).below q5 (by omega)).on hb5)).other (by show w.heap.size ≠ w4.heap.size + 1;omega) _
 ·exact ((hI4.below q5 (by omega)).on hb5).other (by show w3.heap.size ≠ w4.heap.size + 1;omega) _
 ·exact (Below.heap_setCell _ _ _ _ (by show w4.heap.size ≠ w4.heap.size + 1;omega)).trans m1
 ·exact (Below.heap_setCell _ _ _ _ (by show w4.heap.size + 1 + 1 ≠ w4.heap.size + 1;omega)).trans m2
 ·have := p1.set 5 (Ptr d)
  simpa using this
end Go.Proofs.YtkeeofhjdffhbaaGreatDoor
