/- Parts of the proof of dp_root: the texts Cnc1 Cnc2. -/
import Derived.Maps.RangeWalk
import Derived.Test.YtlkfmhbmcicmfaaGreatDoorQ26
set_option linter.unusedSimpArgs false
set_option linter.unusedVariables false
set_option linter.unnecessarySimpa false
namespace Go.Proofs.YtlkfmhbmcicmfaaGreatDoor
open Go Go.RowKit Go.Dr
variable {w w' : World} {n : Nm} {m m' : Mm} {q q' : Cq}

/-- how streams ended turns alone -/
theorem Cx.goesH (hx : Cx w n m q) (hb : But (fun g => g = n.hm) w w') (how : List (Int × Int)) (ho : IMp w' n.hm how) : Cx w' n m { q with how := how } ∧ GoesF w n (Foot n m q) w' { q with how := how } (Foot n m { q with how := how }) := by
  have h := hx.upH hb (fun g hg => .inl hg) how ho
  exact ⟨h, h.goesF (hb.more fun g hg => by rw [hg]; exact Foot.hm) fun g hg => .inl hg⟩

/-- one more is closed -/
theorem Cx.goesQ (hx : Cx w n m q) {cv : Value} {k : Nat} {xs : List Value} (hb : But (fun g => g = n.c ∨ some g = m.cv.ownBlock) w w') (i : Int) (hc : Blk w' n.c 131 (ccells n { m with cv := cv } { q with closed := q.closed ++ [i] })) (hcv : w'.ownsRow n.B 3 1 cv (q.closed ++ [i]).length ((q.closed ++ [i]).map fun x => .int .i64 x)) (hnew : ∀ g, some g = cv.ownBlock → some g = m.cv.ownBlock ∨ w.heap.size ≤ g) :
    Cx w' n { m with cv := cv } { q with closed := q.closed ++ [i] } ∧ GoesF w n (Foot n m q) w' { q with closed := q.closed ++ [i] } (Foot n { m with cv := cv } { q with closed := q.closed ++ [i] }) := by
  obtain ⟨kc, -, -, -, -, -, -, -, -, -, -, -, -, -, kbv, knv, kcv, ksd⟩ := hx.kinds
  obtain ⟨k, hn⟩ := hx.news
  have hX := hx.upC hb (fun g hg => by
      rcases hg with rfl | hg
      · exact .inl kc
      · exact .inr (.inr (.inr (kcv g hg)))) { m with cv := cv } { q with closed := q.closed ++ [i] } hc
    (own_same hx.bytes fun g hg => hb.block g (own_lt hx.bytes hg).2 (by
      have := kbv g hg
      rintro (rfl | e)
      · omega
      · have := kcv g e; omega))
    ⟨k, own_same hn fun g hg => hb.block g (own_lt hn hg).2 (by
      have := knv g hg
      rintro (rfl | e)
      · omega
      · have := kcv g e; omega)⟩
    hcv
    (fun p hp g hg => ⟨by
      have := (ksd p hp).2 g hg
      rintro (rfl | e)
      · omega
      · have := kcv g e; omega, hx.bp p hp g hg⟩) rfl rfl rfl
  refine ⟨hX, hX.goesF (hb.more fun g hg => by
    rcases hg with rfl | hg
    · exact Foot.c _ _ _
    · exact Foot.cv hg) fun g hg => ?_⟩
  rcases foot_rows (m := m) (q := q) hg rfl rfl rfl with hg | hg | hg | hg
  · exact .inl hg
  · exact .inl (Foot.bv hg)
  · exact .inl (Foot.nv hg)
  · rcases hnew g hg with e | e
    · exact .inl (Foot.cv e)
    · exact .inr e

set_option maxRecDepth 100000 in
set_option maxHeartbeats 4000000 in
/-- a stream is dropped -/
theorem Settle_drop {F : Nat → Prop} (w : World) (h : Cw w n q F) (i st : Int) (hi : I64 i) (hst : (st == 4) = false) (hn : ∀ p ∈ q.how, p.1 ≠ i) (hcl : q.closed.length < 16) (hhl : q.how.length < 1000) :
    Calls Tryz.prog 82 #[Ptr n.c, .int .i64 i, .int .i64 st] w fun e w' => e = .returned (.tuple #[]) ∧ Goes w n F w' { q with live := sans q.live i, off := sans q.off i, closed := q.closed ++ [i], how := q.how ++ [(i, st)] } := by
  have h0 := h
  obtain ⟨m, hx, rfl⟩ := h
  have hB : n.B ≤ w.heap.size := Nat.le_trans (hx.lo _ (Foot.c _ _ _)) (Nat.le_of_lt hx.blk.lt)
  have y9 : w.cell? ⟨n.c, 9, none⟩ = some (.map (some n.lm)) := hx.blk.cell 9
  obtain ⟨w2, hrun, hl, ht⟩ := hx.live.del hi 0
  obtain ⟨hx2, hg2⟩ := hx.goesL (but_turn2 ht) i hl
  have y7 : w2.cell? ⟨n.c, 7, none⟩ = some (Ptr n.bk) := hx2.blk.cell 7
  have hS := Shut_any w2 ⟨m, hx2, rfl⟩ i hi
  go_enter Tryz.func82, Tryz.ntmps82
  go_upto_region 3 with (go_at_call 122; (with_reducible refine hS.mono ?_); rintro e w3 ⟨rfl, hg3⟩)
  obtain ⟨F3, k3⟩ := hg2.step hg3
  obtain ⟨m3, hx3, rfl⟩ := k3.h
  have hz3 : n.B ≤ w3.heap.size := Nat.le_trans hB k3.b.size
  have y11 : w3.cell? ⟨n.c, 11, none⟩ = some (.map (some n.hm)) := hx3.blk.cell 11
  have hk := (hx3.how.outH hi hn).1
  have y10 : ∀ ob, (w3.alloc ob).cell? ⟨n.c, 10, none⟩ = some m3.cv := fun ob => (hx3.blk.alloc ob).cell 10
  have y10' : w3.cell? ⟨n.c, 10, none⟩ = some m3.cv := hx3.blk.cell 10
  have hne := hx3.row_ne hx3.closed (by decide)
  clear y9 y7
  go_upto_region 6 with (at_builtin; go_must (refine wpList_appAt rfl _ _ 89 rfl n.B 3 (.int .i64 0) 1 8 Tryz.underlying89 (by kernel_rfl) rfl (by decide) _ _ _ rfl (hx3.closed.alloc _) _ _ 1 [.int .i64 i] rfl (Rd.lit w3 3 #[.int .i64 i] 1 1 rfl (by decide)) (by intro u hu; simp at hu; rw [hu]; rfl) (by unfold maxLen; show q.closed.length + 1 ≤ _; omega) (by show (q.closed.length + 1) * 8 ≤ _; omega) (by simp; omega) ?_; intro a5 c5 w5 hown5 hg5 hat5); have hR5 := Blk.grow (hx3.blk.alloc (.cells #[.int .i64 i] 3)) hg5 hne; have f10 := hR5.free 10; have z10 : w5.cell? ⟨n.c, 10, none⟩ = some m3.cv := hR5.cell 10)
  obtain ⟨bv, ebv⟩ : ∃ bv : Value, bv = .slice a5 (q.closed.length + 1) c5 := ⟨_, rfl⟩
  have hbA : Below w3.heap.size w3 (w3.alloc (.cells #[.int .i64 i] 3)) := (Below.refl _ _).alloc (Nat.le_refl _) _
  have hbt : But (fun g => g = n.c ∨ some g = m3.cv.ownBlock) w3 (w5.setCell ⟨n.c, 10, none⟩ bv) := ((But.of_below hbA).trans ((but_grow hg5).more (fun i hi => .inr hi))).setCell (p := ⟨n.c, 10, none⟩) (.inl (.inl rfl)) _
  have hnew : ∀ g, some g = bv.ownBlock → some g = m3.cv.ownBlock ∨ w3.heap.size ≤ g := fun g hg => by
    rw [ebv] at hg
    rcases hat5 with e | e
    · exact .inl (hg.trans e)
    · have := Option.some.inj (hg.trans e)
      simp at this
      exact .inr (by omega)
  obtain ⟨hx6, k6⟩ := hx3.goesQ (k := 0) (xs := []) hbt i (by
      have := hR5.set 10 bv
      exact this) (by
    have := ownsRow_setCell_other hown5 (a := ⟨n.c, 10, none⟩) (fun e => by
      rcases hat5 with e1 | e1
      · exact hne (e.symm.trans e1)
      · have e2 := Option.some.inj (e.symm.trans e1)
        have := hx3.blk.lt
        simp at e2
        omega) bv
    rw [ebv] at this ⊢
    simpa [List.length_append, List.map_append] using this) hnew
  rw [← ebv]
  refine wp_cut (R := fun W => ∃ cv a c, cv = .slice a (q.closed.length + 1) c ∧ Cx W n { m3 with cv := cv } { q with live := sans q.live i, off := sans q.off i, closed := q.closed ++ [i] } ∧ GoesF w n (Foot n m q) W { q with live := sans q.live i, off := sans q.off i, closed := q.closed ++ [i] } (Foot n { m3 with cv := cv } { q with live := sans q.live i, off := sans q.off i, closed := q.closed ++ [i] })) ⟨bv, a5, c5, ebv, hx6, k3.comp k6⟩ ?_
  clear hx6 k6 hnew hbt hbA ebv hR5 f10 z10 hat5 hg5 hown5 y10 y10' y11 hk hS
  rintro W7 ⟨_, a7, c7, rfl, hx7, k7⟩
  have y11 : W7.cell? ⟨n.c, 11, none⟩ = some (.map (some n.hm)) := hx7.blk.cell 11
  obtain ⟨w8, r8, ho8, t8⟩ := hx7.how.putH hi hn (by unfold maxLen; show q.how.length < _; omega) st
  obtain ⟨hx8, k8⟩ := hx7.goesH (but_turn2 t8) _ ho8
  have y10 : w8.cell? ⟨n.c, 10, none⟩ = some (.slice a7 (q.closed.length + 1) c7) := hx8.blk.cell 10
  have hcl1 : ¬ (16 : Int) < ((q.closed.length + 1 : Nat) : Int) := by omega
  have hcl2 : decide (16 < q.closed.length + 1) = false := by simp; omega
  go_wp2
  go_end0
  exact ⟨rfl, (k7.comp k8).goes⟩

/-- a frame that says goodbye -/
abbrev awayB (last code : Nat) : Bytes := frB 7 0 0 (beP last 4 ++ beP code 4)

set_option maxRecDepth 100000 in
set_option maxHeartbeats 4000000 in
/-- no more streams begin -/
theorem Drain_go {F : Nat → Prop} (w : World) (h : Cw w n q F) (hov : q.over = false) (hdr : q.drained = false) (l : Nat) (hl : q.last = l) (hll : l < 2147483648) (hbl : q.bytes.length ≤ 1000000) :
    Calls Tryz.prog 33 #[Ptr n.c] w fun e w' => e = .returned (.tuple #[]) ∧ Goes w n F w' { q with drained := true, floor := q.last, bytes := q.bytes ++ awayB l 0, over := q.live.isEmpty } := by
  have h0 := GoesF.refl h
  obtain ⟨m, hx, rfl⟩ := h
  have y19 : w.cell? ⟨n.c, 19, none⟩ = some (.bool false) := by rw [← hov]; exact hx.blk.cell 19
  have y17 : w.cell? ⟨n.c, 17, none⟩ = some (.bool false) := by rw [← hdr]; exact hx.blk.cell 17
  have y12 : w.cell? ⟨n.c, 12, none⟩ = some (.int .i64 (l : Int)) := by rw [← hl]; exact hx.blk.cell 12
  have f17 := hx.blk.free 17
  have f18 := hx.blk.free 18
  have y18 : w.cell? ⟨n.c, 18, none⟩ = some (.int .i64 q.floor) := hx.blk.cell 18
  have hbt : But (fun g => g = n.c) w ((w.setCell ⟨n.c, 17, none⟩ (.bool true)).setCell ⟨n.c, 18, none⟩ (.int .i64 (l : Int))) := ((But.refl (fun g => g = n.c) w).setCell (p := ⟨n.c, 17, none⟩) (.inl rfl) _).setCell (p := ⟨n.c, 18, none⟩) (.inl rfl) _
  obtain ⟨hx2, k2⟩ := hx.goesC hbt { q with drained := true, floor := q.last } (by
    have := (hx.blk.set 17 (.bool true)).set 18 (.int .i64 (l : Int))
    rw [← hl] at this ⊢
    exact this) rfl rfl
  have HL := Lib.hid hl
  clear hl
  go_enter Tryz.func33, Tryz.ntmps33
  go_upto_region 2 with fail
  refine wp_cut (R := fun W => Cx W n m { q with drained := true, floor := q.last } ∧ GoesF w n (Foot n m q) W { q with drained := true, floor := q.last } (Foot n m { q with drained := true, floor := q.last })) ⟨hx2, k2⟩ ?_
  clear hbt hx2 k2 f17 f18 y18 y19 y17 y12
  rintro W2 ⟨hx2, k2⟩
  have y12 : W2.cell? ⟨n.c, 12, none⟩ = some (.int .i64 (l : Int)) := by rw [← HL.out]; exact hx2.blk.cell 12
  have hW := Write_any (c0 := .int .i64 7) (c1 := .int .i64 0) (c2 := .int .i64 0) (c3 := S []) (c4 := .int .i64 0) (c5 := .slice none 0 0) (c6 := .int .i64 0) (c7 := .int .i64 (l : Int)) (c8 := .int .i64 0) (c9 := .int .i64 0) (c10 := .int .i64 0) (c11 := .bool false) W2 k2.h (awayB l 0) (fun w1 _ => pPut_Gow 0 0 0 l (by decide) (by decide) (by decide) hll w1) (by rw [frB_length]; simp [beP]; omega)
  go_wp2_with first
    | (go_at_call 65; go_must ((with_reducible refine hW.mono ?_); rintro r w3 ⟨rfl, hg3⟩; obtain ⟨F3, k3⟩ := k2.step hg3; have hR := Rest_any w3 k3.h))
    | (go_at_call 69; go_must ((with_reducible refine hR.mono ?_); rintro r w4 ⟨rfl, hg4⟩; obtain ⟨F4, k4⟩ := k3.step hg4))
  go_end0
  refine ⟨rfl, ?_⟩
  have e := k4.goes
  simpa [hov] using e

set_option maxRecDepth 100000 in
set_option maxHeartbeats 4000000 in
/-- .. of a connection that is over -/
theorem Drain_over {F : Nat → Prop} (w : World) (h : Cw w n q F) (hov : q.over = true) :
    Calls Tryz.prog 33 #[Ptr n.c] w fun e w' => e = .returned (.tuple #[]) ∧ w' = w := by
  obtain ⟨m, hx, rfl⟩ := h
  have y19 : w.cell? ⟨n.c, 19, none⟩ = some (.bool true) := by rw [← hov]; exact hx.blk.cell 19
  go_enter Tryz.func33, Tryz.ntmps33
  go_wp2
  refine bodyPost_ret (v := .tuple #[]) (by simp [results, Tryz.results33, go_sem]) rfl ?_
  exact ⟨rfl, rfl⟩

set_option maxRecDepth 100000 in
set_option maxHeartbeats 4000000 in
/-- behind its end nothing comes -/
theorem Take_over {F : Nat → Prop} (w : World) (h : Cw w n q F) (hov : q.over = true) (v : Value) :
    Calls Tryz.prog 23 #[Ptr n.c, v] w fun e w' => e = .returned (.slice none 0 0) ∧ w' = w := by
  obtain ⟨m, hx, rfl⟩ := h
  have y19 : w.cell? ⟨n.c, 19, none⟩ = some (.bool true) := by rw [← hov]; exact hx.blk.cell 19
  go_enter Tryz.func23, Tryz.ntmps23
  go_wp2
  go_ret
  exact ⟨rfl, rfl⟩
end Go.Proofs.YtlkfmhbmcicmfaaGreatDoor

namespace Go.Proofs.YtlkfmhbmcicmfaaGreatDoor
open Go Go.RowKit Go.Dr
variable {w w' : World} {n : Nm} {m : Mm} {q q' : Cq}

/-- a drained connection to which a request came -/
abbrev Cq.late (q : Cq) (i : Int) : Cq := { q with fo := 0, tm := 0, last := i, closed := q.closed ++ [i], how := q.how ++ [(i, 5)] }

set_option maxRecDepth 100000 in
set_option maxHeartbeats 8000000 in
theorem Begin_late {F : Nat → Prop} (w : World) (h : Cw w n q F) (i : Int) (hi : I64 i) (vl : Value) (e : Bool) (heq : q.endOf = e) (hd : q.drained = true) (hni : ∀ p ∈ q.live, p.1 ≠ i) (hno : ∀ p ∈ q.off, p.1 ≠ i) (hnh : ∀ p ∈ q.how, p.1 ≠ i) (hqc : q.closed.length < 16) (hhl : q.how.length < 1000) :
    Calls Tryz.prog 193 #[Ptr n.c, .int .i64 i, vl, .bool false] w fun r w' => r = .returned (.tuple #[]) ∧ Goes w n F w' { q with last := i, closed := q.closed ++ [i], how := q.how ++ [(i, 5)] } := by
  have g0 := GoesF.refl h
  obtain ⟨m, hx, rfl⟩ := h
  have y15 : w.cell? ⟨n.c, 15, none⟩ = some (.bool e) := by rw [← heq]; exact hx.blk.cell 15
  obtain ⟨st, est⟩ : ∃ st : Int, st = if e then 2 else 1 := ⟨_, rfl⟩
  have hCome : ∀ w : World, Calls Tryz.prog 188 #[.int .i64 0, .int .i64 1, .bool e] w fun r w' => r = .returned (.agg #[.int .i64 st, .bool false, .bool false, .int .i64 0, .bool false]) ∧ Below w.heap.size w w' := fun w => by
    rw [est]
    cases e
    · exact come_0_1_false w
    · exact come_0_1_true w
  clear est
  have hB : n.B ≤ w.heap.size := Nat.le_trans (hx.lo _ (Foot.c _ _ _)) (Nat.le_of_lt hx.blk.lt)
  go_enter Tryz.func193, Tryz.ntmps193
  go_upto_region 1 with (go_at_call 188; (with_reducible refine (hCome _).mono ?_); rintro r w1 ⟨rfl, hb1⟩; have hz1 := hb1.size)
  refine wp_cut (R := fun W => Below w.heap.size w W) (hb1.alloc hz1 _) ?_
  rintro W2 hb2
  have hx2 := hx.on hb2
  have f12 := hx2.blk.free 12
  have y12 : W2.cell? ⟨n.c, 12, none⟩ = some (.int .i64 q.last) := hx2.blk.cell 12
  go_upto_region 2 with fail
  obtain ⟨hx3, k3⟩ := hx2.goesC1 12 (.int .i64 i) { q with last := i } rfl rfl rfl
  have g3 := (g0.on hb2).comp k3
  refine wp_cut (R := fun W => Cx W n m { q with last := i } ∧ GoesF w n (Foot n m q) W { q with last := i } (Foot n m { q with last := i })) ⟨hx3, g3⟩ ?_
  clear hx2 hx3 k3 g3 f12 y12 hb2 W2
  rintro W3 ⟨hx3, g3⟩
  have y17 : W3.cell? ⟨n.c, 17, none⟩ = some (.bool true) := by rw [← hd]; exact hx3.blk.cell 17
  have hS := Settle_drop W3 g3.h i 5 hi rfl hnh hqc hhl
  go_wp2_with (go_at_call 82; go_must ((with_reducible refine hS.mono ?_); rintro r w4 ⟨rfl, hg4⟩; obtain ⟨F4, k4⟩ := g3.step hg4))
  refine bodyPost_ret (v := .tuple #[]) (by simp [results, Tryz.results193, go_sem]) rfl ?_
  refine ⟨rfl, ?_⟩
  have e4 := k4.goes
  rw [show sans ({ q with last := i } : Cq).live i = q.live from sans_none hni, show sans ({ q with last := i } : Cq).off i = q.off from sans_none hno] at e4
  exact e4

set_option maxRecDepth 100000 in
set_option maxHeartbeats 8000000 in
theorem Piece_late {F : Nat → Prop} {c4 c5 c6 c7 c8 c9 c10 c11 : Value} (w : World) (h : Cw w n q F) (i : Int) (hi : I64 i) (hfo : q.fo = i) (fl : Int) (hfl : fl = 4 ∨ fl = 5) (lb p d : Bytes) (hdd : d = getB lb) (hL : ∀ a b, PartRun a b lb (fPath p)) (hlb : lb ≠ []) (hlbl : lb.length ≤ 50) (hp : p = [47] ∨ p = [47, 120]) (hlst : 300 ≤ q.lst) (htab : 0 ≤ q.tab) (hbrk : q.brk = false)
    (e : Bool) (heq : q.endOf = e) (hdr : q.drained = true) (hni : ∀ p ∈ q.live, p.1 ≠ i) (hno : ∀ p ∈ q.off, p.1 ≠ i) (hnh : ∀ p ∈ q.how, p.1 ≠ i) (hqc : q.closed.length < 16) (hhl : q.how.length < 1000) (hlast : q.last < i) :
    Calls Tryz.prog 146 #[Ptr n.c, .agg #[.int .i64 1, .int .i64 fl, .int .i64 i, S d, c4, c5, c6, c7, c8, c9, c10, c11]] w fun r w' => r = .returned (.tuple #[]) ∧ Goes w n F w' (q.late i) := by
  have g0 := GoesF.refl h
  obtain ⟨m, hx, rfl⟩ := h
  have hpl : p.length ≤ 2 := by rcases hp with rfl | rfl <;> decide
  have hdl : d.length ≤ 100 := by rw [hdd]; simp; omega
  have hd0 : 0 < d.length := by rw [hdd]; simp
  have hB : n.B ≤ w.heap.size := Nat.le_trans (hx.lo _ (Foot.c _ _ _)) (Nat.le_of_lt hx.blk.lt)
  obtain ⟨W, eW⟩ : ∃ W, W = w.alloc (.cells #[.int .i64 1, .int .i64 fl, .int .i64 i, S d, c4, c5, c6, c7, c8, c9, c10, c11] 34) := ⟨_, rfl⟩
  have hF : Blk W w.heap.size 34 #[.int .i64 1, .int .i64 fl, .int .i64 i, S d, c4, c5, c6, c7, c8, c9, c10, c11] := by rw [eW]; exact Blk.new _ _ _
  have hb : Below w.heap.size w W := by rw [eW]; exact (Below.refl _ _).alloc (Nat.le_refl _) _
  have hWz : W.heap.size = w.heap.size + 1 := by rw [eW]; simp
  have hxW := hx.on hb
  have y13 : W.cell? ⟨n.c, 13, none⟩ = some (.slice none 0 0) := hxW.blk.cell 13
  have f3 : W.cell? ⟨w.heap.size, 3, none⟩ = some (S d) := hF.cell 3
  have hcl := hx.blk.lt
  have HD := Lib.hid hdd
  clear hdd
  have hfb := bnd_fl hfl
  clear hfl
  go_enter Tryz.func146, Tryz.ntmps146
  go_upto_region 1 with fail
  rw [← eW]
  clear eW
  go_region_law (refine step_of ?_ (by rfl); refine wp_apStr _ _ _ _ rfl (w.heap.size + 1) 5 Tryz.underlying26 Tryz.underlying9 (by kernel_rfl) _ _ _ rfl (World.ownsRow_nil _ _ _ _) d rfl (by omega) (by show _ ≤ W.heap.size; omega) ?_; intro av cv w2 hv hb2; have hc2 : Blk w2 n.c _ _ := hxW.blk.drew.below hb2 (by omega); have z13 : w2.cell? ⟨n.c, 13, none⟩ = some (.slice none 0 0) := hc2.cell 13; have zf := hc2.free 13)
  all_goals (
    have hF2 : Blk w2 w.heap.size _ _ := hF.drew.below hb2 (by omega)
    have hx2 : Cx w2 n m q := hxW.drew.keep (fun g hg => hb2.block g (by have := hx.foot_lt hg; omega))
    have hb02 : Below w.heap.size w w2 := hb.drew.trans (hb2.mono (Nat.le_succ _))
    obtain ⟨bv, ebv⟩ : ∃ bv : Value, bv = .slice av d.length cv := ⟨_, rfl⟩
    have hC3 := hx2.blk.set 13 (.slice av d.length cv)
    have hF3 := hF2.other (p := ⟨n.c, 13, none⟩) (by show w.heap.size ≠ n.c; omega) (.slice av d.length cv)
    have z13' : (w2.setCell ⟨n.c, 13, none⟩ (.slice av d.length cv)).cell? ⟨n.c, 13, none⟩ = some (.slice av d.length cv) := hC3.cell 13
    have z14' : (w2.setCell ⟨n.c, 13, none⟩ (.slice av d.length cv)).cell? ⟨n.c, 14, none⟩ = some (.int .i64 i) := by rw [← hfo]; exact hC3.cell 14
    have zf1 : (w2.setCell ⟨n.c, 13, none⟩ (.slice av d.length cv)).cell? ⟨w.heap.size, 1, none⟩ = some (.int .i64 fl) := hF3.cell 1
    have zf13 := hC3.free 13
    have zf14 := hC3.free 14
    clear z13 zf
    go_upto_region 5 with fail
    go_region
    all_goals (
      go_upto_region 7 with fail
      have hbt : But (fun g => g = n.c) w2 (((w2.setCell ⟨n.c, 13, none⟩ (.slice av d.length cv)).setCell ⟨n.c, 14, none⟩ (.int .i64 0)).setCell ⟨n.c, 13, none⟩ (.slice none 0 0)).drew := ((((But.refl (fun g => g = n.c) w2).setCell (p := ⟨n.c, 13, none⟩) (.inl rfl) _).setCell (p := ⟨n.c, 14, none⟩) (.inl rfl) _).setCell (p := ⟨n.c, 13, none⟩) (.inl rfl) _).drew
      obtain ⟨hx4, k4⟩ := hx2.goesC hbt { q with fo := 0 } ((((hx2.blk.set 13 (.slice av d.length cv)).set 14 (.int .i64 0)).set 13 (.slice none 0 0)).drew) rfl rfl
      have hv4 := own_same hv (fun g hg => hbt.block g (hv.lt g hg.symm).2 (fun e => by have := (hv.lt g hg.symm).1; omega))
      have g4 := (g0.on hb02).comp k4
      refine wp_cut (R := fun W => Cx W n m { q with fo := 0 } ∧ GoesF w n (Foot n m q) W { q with fo := 0 } (Foot n m { q with fo := 0 }) ∧ By W.heap.size W (.slice av d.length cv) d) ⟨hx4, g4, own_by (by simpa using hv4)⟩ ?_
      clear hbt hx4 k4 hv4 g4 hx2 hF2 hF3 hC3 z13' z14' zf1 zf13 zf14 hc2 hv hb2 hb02 ebv bv hF hb hWz hxW y13 f3
      rintro W4 ⟨hx4, g4, hv4⟩
      have hdec := hx4.dec
      rw [show ({ q with fo := 0 } : Cq).brk = false from hbrk] at hdec
      have y5 : W4.cell? ⟨n.c, 5, none⟩ = some (Ptr n.d) := hx4.blk.cell 5
      have htd : n.t1 ≠ n.d := fun e1 => by
        obtain ⟨-, -, k1, k2, -⟩ := hx4.kinds
        rw [e1] at k2
        omega
      obtain ⟨bx, ebx⟩ : ∃ x : Value, x = .slice av d.length cv := ⟨_, rfl⟩
      rw [← ebx, HD.out] at hv4
      have hDec := Decode_get lb p bx (hL _ _) hlb (by omega) (by show _ ≤ q.lst; omega) htab htd W4 hdec hx4.t1 hv4
      rw [ebx] at hDec
      clear ebx
      go_wp2_with first
        | (go_at_call 98; go_must ((with_reducible refine hDec.mono ?_); rintro r w5 ⟨⟨a5, c5', rfl, hrow⟩, hT5, hb5⟩; have hx5 := hx4.upD hb5 (fun g hg => .inr (by rw [hg]; exact kd_blk hx4.t1)) (fun e1 => hx4.tt e1.symm) 0 q.brk (hx4.dec.but hb5 (fun e1 => htd e1.symm)) hT5; have k5 : GoesF W4 n (Foot n m { q with fo := 0 }) w5 { q with fo := 0, tm := 0 } (Foot n m { q with fo := 0, tm := 0 }) := ⟨⟨m, hx5, rfl⟩, hb5.more (fun g hg => by rw [hg]; exact Foot.t1), fun g hg => .inl hg⟩; have g5 := g4.comp k5; have y12 : w5.cell? ⟨n.c, 12, none⟩ = some (.int .i64 q.last) := hx5.blk.cell 12; have hBeg := Begin_late w5 k5.h i hi (.slice a5 4 c5') e heq hdr hni hno hnh hqc hhl))
        | (go_at_call 193; go_must ((with_reducible refine hBeg.mono ?_); rintro r w6 ⟨rfl, hg6⟩; obtain ⟨F6, g6⟩ := g5.step hg6))
      go_end0
      exact ⟨rfl, g6.goes⟩))

set_option maxRecDepth 100000 in
set_option maxHeartbeats 8000000 in
theorem Headers_late {F : Nat → Prop} {c4 c5 c6 c7 c8 c9 c10 c11 : Value} (w : World) (h : Cw w n q F) (i : Int) (hi : I64 i) (hodd : i.tmod 2 = 1) (e : Bool) (lb p d : Bytes) (hdd : d = getB lb) (hL : ∀ a b, PartRun a b lb (fPath p)) (hlb : lb ≠ []) (hlbl : lb.length ≤ 50) (hp : p = [47] ∨ p = [47, 120]) (hlst : 300 ≤ q.lst) (htab : 0 ≤ q.tab) (hbrk : q.brk = false)
    (hdr : q.drained = true) (hni : ∀ p ∈ q.live, p.1 ≠ i) (hno : ∀ p ∈ q.off, p.1 ≠ i) (hnh : ∀ p ∈ q.how, p.1 ≠ i) (hqc : q.closed.length < 16) (hhl : q.how.length < 1000) (hlast : q.last < i) :
    Calls Tryz.prog 141 #[Ptr n.c, .agg #[.int .i64 1, .int .i64 (if e then 5 else 4), .int .i64 i, S d, c4, c5, c6, c7, c8, c9, c10, c11]] w fun r w' => r = .returned (.tuple #[]) ∧ Goes w n F w' ({ q with endOf := e }.late i) := by
  have g0 := GoesF.refl h
  obtain ⟨m, hx, rfl⟩ := h
  obtain ⟨fl, efl⟩ : ∃ fl : Int, fl = if e then 5 else 4 := ⟨_, rfl⟩
  rw [← efl]
  have hfl : fl = 4 ∨ fl = 5 := by rw [efl]; cases e <;> simp
  have hb1 : bits .and .i64 fl 1 = if e then 1 else 0 := by rw [efl]; cases e <;> rfl
  clear efl
  have HD := Lib.hid hdd
  clear hdd
  obtain ⟨W, eW⟩ : ∃ W, W = w.alloc (.cells #[.int .i64 1, .int .i64 fl, .int .i64 i, S d, c4, c5, c6, c7, c8, c9, c10, c11] 34) := ⟨_, rfl⟩
  have hF : Blk W w.heap.size 34 #[.int .i64 1, .int .i64 fl, .int .i64 i, S d, c4, c5, c6, c7, c8, c9, c10, c11] := by rw [eW]; exact Blk.new _ _ _
  have hb : Below w.heap.size w W := by rw [eW]; exact (Below.refl _ _).alloc (Nat.le_refl _) _
  have hxW := hx.on hb
  have hcl := hx.blk.lt
  have f1 : W.cell? ⟨w.heap.size, 1, none⟩ = some (.int .i64 fl) := hF.cell 1
  have f2 : W.cell? ⟨w.heap.size, 2, none⟩ = some (.int .i64 i) := hF.cell 2
  have y13 : W.cell? ⟨n.c, 13, none⟩ = some (.slice none 0 0) := hxW.blk.cell 13
  have y14 : W.cell? ⟨n.c, 14, none⟩ = some (.int .i64 q.fo) := hxW.blk.cell 14
  have y15 : W.cell? ⟨n.c, 15, none⟩ = some (.bool q.endOf) := hxW.blk.cell 15
  have v13 := hxW.blk.free 13
  have v14 := hxW.blk.free 14
  have v15 := hxW.blk.free 15
  cases e
  · go_enter Tryz.func141, Tryz.ntmps141
    go_upto_region 3 with fail
    rw [← eW]
    clear eW
    go_region
    go_upto_region 4 with fail
    have hbt : But (fun g => g = n.c) W (((W.setCell ⟨n.c, 14, none⟩ (.int .i64 i)).setCell ⟨n.c, 15, none⟩ (.bool false)).setCell ⟨n.c, 13, none⟩ (.slice none 0 0)).drew := ((((But.refl (fun g => g = n.c) W).setCell (p := ⟨n.c, 14, none⟩) (.inl rfl) _).setCell (p := ⟨n.c, 15, none⟩) (.inl rfl) _).setCell (p := ⟨n.c, 13, none⟩) (.inl rfl) _).drew
    obtain ⟨hx4, k4⟩ := hxW.goesC hbt { q with fo := i, endOf := false } ((((hxW.blk.set 14 (.int .i64 i)).set 15 (.bool false)).set 13 (.slice none 0 0)).drew) rfl rfl
    have g4 := (g0.on hb).comp k4
    have hF4 := hF.but hbt (fun e => by omega)
    refine wp_cut (R := fun W => Cx W n m { q with fo := i, endOf := false } ∧ GoesF w n (Foot n m q) W { q with fo := i, endOf := false } (Foot n m { q with fo := i, endOf := false }) ∧ Blk W w.heap.size 34 #[.int .i64 1, .int .i64 fl, .int .i64 i, S d, c4, c5, c6, c7, c8, c9, c10, c11]) ⟨hx4, g4, hF4⟩ ?_
    clear hbt hx4 k4 g4 hF4 f1 f2 y13 y14 y15 v13 v14 v15 hxW hb hF
    rintro W4 ⟨hx4, g4, hF4⟩
    (have x0 : W4.cell? ⟨w.heap.size, 0, none⟩ = some (.int .i64 1) := hF4.cell 0; have x1 : W4.cell? ⟨w.heap.size, 1, none⟩ = some (.int .i64 fl) := hF4.cell 1; have x2 : W4.cell? ⟨w.heap.size, 2, none⟩ = some (.int .i64 i) := hF4.cell 2; have x3 : W4.cell? ⟨w.heap.size, 3, none⟩ = some (S d) := hF4.cell 3; have x4 : W4.cell? ⟨w.heap.size, 4, none⟩ = some (c4) := hF4.cell 4; have x5 : W4.cell? ⟨w.heap.size, 5, none⟩ = some (c5) := hF4.cell 5; have x6 : W4.cell? ⟨w.heap.size, 6, none⟩ = some (c6) := hF4.cell 6; have x7 : W4.cell? ⟨w.heap.size, 7, none⟩ = some (c7) := hF4.cell 7; have x8 : W4.cell? ⟨w.heap.size, 8, none⟩ = some (c8) := hF4.cell 8; have x9 : W4.cell? ⟨w.heap.size, 9, none⟩ = some (c9) := hF4.cell 9; have x10 : W4.cell? ⟨w.heap.size, 10, none⟩ = some (c10) := hF4.cell 10; have x11 : W4.cell? ⟨w.heap.size, 11, none⟩ = some (c11) := hF4.cell 11)
    have hP := Piece_late (c4 := c4) (c5 := c5) (c6 := c6) (c7 := c7) (c8 := c8) (c9 := c9) (c10 := c10) (c11 := c11) W4 g4.h i hi rfl fl hfl lb p d HD.out hL hlb hlbl hp hlst htab hbrk false rfl hdr hni hno hnh hqc hhl hlast
    go_wp2_with first
      | (go_at_call 146; go_must ((with_reducible refine hP.mono ?_); rintro r w6 ⟨rfl, hg6⟩; obtain ⟨F6, g6⟩ := g4.step hg6))
    go_end0
    exact ⟨rfl, g6.goes⟩
  · go_enter Tryz.func141, Tryz.ntmps141
    go_upto_region 3 with fail
    rw [← eW]
    clear eW
    go_region
    go_upto_region 4 with fail
    have hbt : But (fun g => g = n.c) W (((W.setCell ⟨n.c, 14, none⟩ (.int .i64 i)).setCell ⟨n.c, 15, none⟩ (.bool true)).setCell ⟨n.c, 13, none⟩ (.slice none 0 0)).drew := ((((But.refl (fun g => g = n.c) W).setCell (p := ⟨n.c, 14, none⟩) (.inl rfl) _).setCell (p := ⟨n.c, 15, none⟩) (.inl rfl) _).setCell (p := ⟨n.c, 13, none⟩) (.inl rfl) _).drew
    obtain ⟨hx4, k4⟩ := hxW.goesC hbt { q with fo := i, endOf := true } ((((hxW.blk.set 14 (.int .i64 i)).set 15 (.bool true)).set 13 (.slice none 0 0)).drew) rfl rfl
    have g4 := (g0.on hb).comp k4
    have hF4 := hF.but hbt (fun e => by omega)
    refine wp_cut (R := fun W => Cx W n m { q with fo := i, endOf := true } ∧ GoesF w n (Foot n m q) W { q with fo := i, endOf := true } (Foot n m { q with fo := i, endOf := true }) ∧ Blk W w.heap.size 34 #[.int .i64 1, .int .i64 fl, .int .i64 i, S d, c4, c5, c6, c7, c8, c9, c10, c11]) ⟨hx4, g4, hF4⟩ ?_
    clear hbt hx4 k4 g4 hF4 f1 f2 y13 y14 y15 v13 v14 v15 hxW hb hF
    rintro W4 ⟨hx4, g4, hF4⟩
    (have x0 : W4.cell? ⟨w.heap.size, 0, none⟩ = some (.int .i64 1) := hF4.cell 0; have x1 : W4.cell? ⟨w.heap.size, 1, none⟩ = some (.int .i64 fl) := hF4.cell 1; have x2 : W4.cell? ⟨w.heap.size, 2, none⟩ = some (.int .i64 i) := hF4.cell 2; have x3 : W4.cell? ⟨w.heap.size, 3, none⟩ = some (S d) := hF4.cell 3; have x4 : W4.cell? ⟨w.heap.size, 4, none⟩ = some (c4) := hF4.cell 4; have x5 : W4.cell? ⟨w.heap.size, 5, none⟩ = some (c5) := hF4.cell 5; have x6 : W4.cell? ⟨w.heap.size, 6, none⟩ = some (c6) := hF4.cell 6; have x7 : W4.cell? ⟨w.heap.size, 7, none⟩ = some (c7) := hF4.cell 7; have x8 : W4.cell? ⟨w.heap.size, 8, none⟩ = some (c8) := hF4.cell 8; have x9 : W4.cell? ⟨w.heap.size, 9, none⟩ = some (c9) := hF4.cell 9; have x10 : W4.cell? ⟨w.heap.size, 10, none⟩ = some (c10) := hF4.cell 10; have x11 : W4.cell? ⟨w.heap.size, 11, none⟩ = some (c11) := hF4.cell 11)
    have hP := Piece_late (c4 := c4) (c5 := c5) (c6 := c6) (c7 := c7) (c8 := c8) (c9 := c9) (c10 := c10) (c11 := c11) W4 g4.h i hi rfl fl hfl lb p d HD.out hL hlb hlbl hp hlst htab hbrk true rfl hdr hni hno hnh hqc hhl hlast
    go_wp2_with first
      | (go_at_call 146; go_must ((with_reducible refine hP.mono ?_); rintro r w6 ⟨rfl, hg6⟩; obtain ⟨F6, g6⟩ := g4.step hg6))
    go_end0
    exact ⟨rfl, g6.goes⟩

theorem over_alive (q : Cq) (h : q.live.isEmpty = false) : ({ q with over := q.over || (q.drained && q.live.isEmpty) } : Cq) = q := by
  cases q
  simp only [] at h
  simp [h]
theorem Item_late {F : Nat → Prop} {sa : Option Addr} {sc : Nat} (w : World) (h : Cw w n q F) (hgr : q.greeted = true) (hfo : q.fo = 0) (i : Nat) (hi : i < 2147483648) (hi1 : 1 ≤ i) (hodd : i % 2 = 1) (e : Bool) (lb p : Bytes) (hL : ∀ a b, PartRun a b lb (fPath p)) (hlb : lb ≠ []) (hlbl : lb.length ≤ 50) (hp : p = [47] ∨ p = [47, 120]) (hlst : 300 ≤ q.lst) (htab : 0 ≤ q.tab) (hbrk : q.brk = false)
    (hdr : q.drained = true) (hlv : q.live.isEmpty = false) (hni : ∀ p ∈ q.live, p.1 ≠ (i : Int)) (hno : ∀ p ∈ q.off, p.1 ≠ (i : Int)) (hnh : ∀ p ∈ q.how, p.1 ≠ (i : Int)) (hqc : q.closed.length < 16) (hhl : q.how.length < 1000) (hlast : q.last < i) :
    Calls Tryz.prog 66 #[Ptr n.c, itmV { ty := 1, fl := if e then 5 else 4, st := i, data := getB lb } (.slice sa 0 sc) {}] w fun r w' => r = .returned (.tuple #[]) ∧ Goes w n F w' ({ q with endOf := e }.late i) := by
  have eg : ({ q with greeted := true } : Cq) = q := by
    cases q
    simp only [] at hgr
    rw [hgr]
  have hI := Item_do (F := F) (d := getB lb) (ty := 1) (fl := if e then 5 else 4) (st := (i : Int)) (x4 := 0) (sa := sa) (sk := 0) (sc := sc) (x6 := 0) (x7 := 0) (x8 := 0) (x9 := 0) (x10 := 0) (x11 := false) (q' := { q with endOf := e }.late i) w h (by decide) 141 rfl (run_en Tryz.func141 (by kernel_rfl) rfl)
    (fun w1 F1 h1 => Placed_then w1 h1 hgr hfo (by decide))
    (fun w1 F1 _ h1 => Headers_late w1 (eg ▸ h1) i (by constructor <;> omega) (by rw [Int.tmod_eq_emod_of_nonneg (by omega)]; omega) e lb p _ rfl hL hlb hlbl hp hlst htab hbrk hdr hni hno hnh hqc hhl hlast) _ (over_alive ({ q with endOf := e }.late i) hlv)
  cases e <;> exact hI

end Go.Proofs.YtlkfmhbmcicmfaaGreatDoor

