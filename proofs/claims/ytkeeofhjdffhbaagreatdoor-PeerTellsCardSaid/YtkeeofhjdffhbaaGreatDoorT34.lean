/- Parts of the proof of pt_root: the texts HpkE. -/
import Derived.Test.YtkeeofhjdffhbaaGreatDoorT33
set_option linter.unusedSimpArgs false
set_option linter.unusedVariables false
set_option linter.unnecessarySimpa false
namespace Go.Proofs.YtkeeofhjdffhbaaGreatDoor
open Go Go.RowKit Go.Dr
/-- bytes stay where no block of bytes turns -/
theorem By.keep {B : Nat} {w w' : World} {v : Value} {bs : Bytes} (h : By B w v bs) (hk : ∀ (b off : Nat) (c : UInt8), b < B → w.cell? ⟨b, off, none⟩ = some (B8 c) → w'.heap[b]? = w.heap[b]?) : By B w' v bs := by
 obtain ⟨a, cap, h1, h2, h3, h4, h5, h6⟩ := h
 refine ⟨a, cap, h1, h2, h3, h4, h5, fun j y hy => ?_⟩
 obtain ⟨b, off, e1, e2, e3⟩ := h6 j y hy
 refine ⟨b, off, e1, e2, ?_⟩
 obtain ⟨c, -, rfl⟩ := List.mem_map.1 (List.mem_of_getElem? hy)
 rw [← e3]
 simp only [World.cell?, hk b (off + j) c e2 e3]
theorem no_b8 {w : World} {t : Nat} {T : TypeId} {xs : Array Value} (hT : Blk w t T xs) (hx : ∀ (j : Nat) (c : UInt8), xs[j]? ≠ some (B8 c)) (off : Nat) (c : UInt8) : w.cell? ⟨t, off, none⟩ ≠ some (B8 c) := fun h => hx off c ((hT.cell off).symm.trans h)
theorem no_b8_map {w : World} {m n : Nat} {es : Array MapEntry} (h : w.heap[m]? = some (.map es n)) (off : Nat) (c : UInt8) : w.cell? ⟨m, off, none⟩ ≠ some (B8 c) := by simp [World.cell?, h]
theorem tab_b8 {sz gone most : Int} {rv : Value} {m1 m2 : Option Nat} (hrv : ∀ c : UInt8, rv ≠ B8 c) (j : Nat) (c : UInt8) : (#[.int .i64 most, .int .i64 sz, rv, .int .i64 gone, .map m1, .map m2] : Array Value)[j]? ≠ some (B8 c) := by
 rcases j with _ | _ | _ | _ | _ | _ | j <;> simp
 exact hrv c
set_option maxRecDepth 100000 in
set_option maxHeartbeats 4000000 in
/-- a field is put behind the others: what turns -/
theorem Put_own {r : Nat} {v dv hv fv : Value} {cost : Int} (l : List F) (f : F) (w : World) (base : Nat) (hR : Blk w r 219 #[dv, v, fv, .int .i64 cost, hv]) (hbr : r < base) (hbw : base ≤ w.heap.size) (ho : w.ownsRow base 41 3 fv l.length (fcells l)) (hfn : f.n.length ≤ 1048576) (hfv : f.v.length ≤ 1048576) (hc0 : 0 ≤ cost) (hc1 : cost ≤ 1099511627776) (hll : l.length ≤ 100000) :
  Calls Tryz.prog 165 #[Ptr r, .agg #[S f.n, S f.v, .bool f.m]] w fun e w' => e = .returned (.tuple #[]) ∧ ∃ a c, Blk w' r 219 #[dv, v, .slice a (l.length + 1) c, .int .i64 (cost + ((f.n.length : Int) + (f.v.length : Int) + 32)), hv] ∧ w'.ownsRow base 41 3 (.slice a (l.length + 1) c) (l.length + 1) (fcells (l ++ [f])) ∧ But (fun k => k = r ∨ some k = fv.ownBlock) w w' := by
 obtain ⟨fa, fc, rfl⟩ := own_form ho
 obtain ⟨W, eW⟩ : ∃ W, W = w.alloc (.cells #[S f.n, S f.v, .bool f.m] 41) := ⟨_, rfl⟩
 have hb : Below w.heap.size w W := by rw [eW];exact (Below.refl _ _).alloc (Nat.le_refl _) _
 have hF : Blk W w.heap.size 41 #[S f.n, S f.v, .bool f.m] := by rw [eW];exact Blk.new _ _ _
 have hRW := hR.on hb
 have y3 : W.cell? ⟨r, 3, none⟩ = some (.int .i64 cost) := hRW.cell 3
 have f3 := hRW.free 3
 have g0 : W.cell? ⟨w.heap.size, 0, none⟩ = some (S f.n) := hF.cell 0
 have g1 : W.cell? ⟨w.heap.size, 1, none⟩ = some (S f.v) := hF.cell 1
 go_enter Tryz.func165, Tryz.ntmps165
 go_upto_region 1 with fail
 rw [← eW]
 clear eW
 go_region
 obtain ⟨W2, eW2⟩ : ∃ W2, W2 = (W.setCell ⟨r, 3, none⟩ (.int .i64 (cost + ((f.n.length : Int) + (f.v.length : Int) + 32)))).drew := ⟨_, rfl⟩
 have hrl := hR.lt
 have hWl := hF.lt
 have hWz := hb.size
 have hR2 : Blk W2 r 219 #[dv, v, .slice fa l.length fc, .int .i64 (cost + ((f.n.length : Int) + (f.v.length : Int) + 32)), hv] := by rw [eW2];exact (hRW.set 3 _).drew
 have hF2 : Blk W2 w.heap.size 41 #[S f.n, S f.v, .bool f.m] := by rw [eW2];exact (hF.other (p := ⟨r, 3, none⟩) (by show w.heap.size ≠ r;omega) _).drew
 have ho2 : W2.ownsRow base 41 3 (.slice fa l.length fc) l.length (fcells l) := by rw [eW2];exact own_dr (ownsRow_setCell_below (own_below ho hb) hbr _)
 have hu2 : But (fun k => k = r ∨ some k = (Value.slice fa l.length fc).ownBlock) w W2 := by rw [eW2];exact ((But.of_below (S := fun k => k = r ∨ some k = (Value.slice fa l.length fc).ownBlock) hb).setCell (p := ⟨r, 3, none⟩) (.inl (.inl rfl)) _).drew
 have x2 : W2.cell? ⟨r, 2, none⟩ = some (.slice fa l.length fc) := hR2.cell 2
 have x2a : ∀ ob, (W2.alloc ob).cell? ⟨r, 2, none⟩ = some (.slice fa l.length fc) := fun ob => (hR2.alloc ob).cell 2
 have k0 : W2.cell? ⟨w.heap.size, 0, none⟩ = some (S f.n) := hF2.cell 0
 have k1 : W2.cell? ⟨w.heap.size, 1, none⟩ = some (S f.v) := hF2.cell 1
 have k2 : W2.cell? ⟨w.heap.size, 2, none⟩ = some (.bool f.m) := hF2.cell 2
 have hz2 := hu2.size
 go_upto_region 2 with fail
 rw [← eW2]
 clear eW2 y3 f3 g0 g1 hRW hF ho hR
 go_region_law (refine step_of ?_ (by rfl);refine wp_appG _ _ 42 rfl base 41 (.agg #[.string ByteArray.empty, .string ByteArray.empty, .bool false]) 3 40 Tryz.underlying42 (by kernel_rfl) rfl (by decide) _ _ _ rfl (own_dr (ho2.alloc _)) _ _ _ [S f.n, S f.v, .bool f.m] rfl (Rd.drew (Rd.lit W2 41 #[S f.n, S f.v, .bool f.m] 3 1 rfl (by decide))) (by intro u hu;simp at hu;rcases hu with rfl | rfl | rfl <;> rfl) (by unfold maxLen;omega) (by omega) (by simp;omega) ?_;intro a3 c3 w3 hown3 hb3 hg3;have hR3 := (hR2.alloc (.cells #[S f.n, S f.v, .bool f.m] 41)).drew.below hb3 hbr;have z2 : w3.cell? ⟨r, 2, none⟩ = some (.slice fa l.length fc) := hR3.cell 2;have zf := hR3.free 2)
 all_goals (
  go_wp2
  go_end0
  exact ⟨rfl, a3, c3, hR3.set 2 _, (by rw [fcells_append];exact ownsRow_setCell_below hown3 hbr _), ((hu2.trans (((But.refl (fun k => k = r ∨ some k = (Value.slice fa l.length fc).ownBlock) W2).alloc _).drew)).trans ((but_grow hg3).more fun k hk => .inr hk)).setCell (p := ⟨r, 2, none⟩) (.inl (.inl rfl)) _⟩)
set_option maxRecDepth 100000 in
set_option maxHeartbeats 4000000 in
theorem Part_add {r d t m1 m2 B base : Nat} {tab lst : Int} {bk : Bool} {cost ch : Int} (rest : Bytes) (l : List F) (w : World) (hS : RS w r d B base (64 :: 1 :: 97 :: 1 :: 98 :: rest) l cost ch) (hBr : B ≤ r) (hbr : r < base) (hbw : base ≤ w.heap.size) (hD : Blk w d 163 #[.int .i64 tab, .int .i64 lst, Ptr t, .bool bk]) (hT : Blk w t 210 #[.int .i64 4096, .int .i64 0, .slice none 0 0, .int .i64 0, .map (some m1), .map (some m2)]) (h1 : w.heap[m1]? = some (.map #[] 0)) (h2 : w.heap[m2]? = some (.map #[] 0)) (h12 : m1 ≠ m2) (hdr : d ≠ r) (htr : t ≠ r) (htB : t < base) (hm1 : m1 < base) (hm2 : m2 < base) (hc0 : 0 ≤ cost) (hc1 : cost ≤ 1099511627776) (hll : l.length ≤ 100000) :
  Calls Tryz.prog 118 #[Ptr r] w fun e w' => e = .returned (.tuple #[]) ∧ RS w' r d B base rest (l ++ [⟨[97], [98], false⟩]) (cost + fcost ⟨[97], [98], false⟩) ch ∧ (∃ a c, Blk w' t 210 #[.int .i64 4096, .int .i64 34, .slice a 1 c, .int .i64 0, .map (some m1), .map (some m2)] ∧ w'.ownsRow base 274 2 (.slice a 1 c) 1 abC.toList) ∧ But (fun k => k = r ∨ k = t ∨ k = m1 ∨ k = m2 ∨ base ≤ k) w w' := by
 obtain ⟨b, off, cv, y1, x0', hlen⟩ := hS.head
 have x0 : w.cell? ⟨b, off, none⟩ = some (.int .u8 64) := x0'
 have hlz : (0 : Int) < ((64 :: 1 :: 97 :: 1 :: 98 :: rest).length : Int) := by simp;omega
 obtain ⟨v, fv, hR, hB, ho⟩ := hS
 have hL := Literal_new 64 [97] [98] rest (by decide) (by decide) (by decide) w hR hB hBr
 have hrl := hR.lt
 have q1 : m1 ≠ r := mblk h1 hR
 have q2 : m2 ≠ r := mblk h2 hR
 have q3 : m1 ≠ t := mblk h1 hT
 have q4 : m2 ≠ t := mblk h2 hT
 have q5 : m1 ≠ d := mblk h1 hD
 have q6 : m2 ≠ d := mblk h2 hD
 have q7 : d ≠ t := fun e => by have a := kd_blk hD;rw [e, kd_blk hT] at a;exact absurd a (by decide)
 clear x0' hB
 go_enter Tryz.func118, Tryz.ntmps118
 go_upto_region 6 with (go_at_call 168;go_must ((with_reducible refine hL.mono ?_);rintro e w2 ⟨rfl, ⟨v2, hR2, hB2⟩, hb2⟩))
 have hz2 := hb2.size
 have ho2 := own_same ho (fun g hg => hb2.block g (own_lt ho hg).2 (fun e => by have := (own_lt ho hg).1;have e' : g = r := e;omega))
 have hA : Below w2.heap.size w2 (w2.alloc (.cells #[S [97], S [98], .bool false] 41)) := (Below.refl _ _).alloc (Nat.le_refl _) _
 refine wp_cut (R := fun W => (Blk W r 219 #[Ptr d, v2, fv, .int .i64 cost, .int .i64 ch] ∧ By B W v2 rest ∧ Blk W d 163 #[.int .i64 tab, .int .i64 lst, Ptr t, .bool bk] ∧ Blk W t 210 #[.int .i64 4096, .int .i64 0, .slice none 0 0, .int .i64 0, .map (some m1), .map (some m2)]) ∧ W.heap[m1]? = some (.map #[] 0) ∧ W.heap[m2]? = some (.map #[] 0) ∧ W.ownsRow base 41 3 fv l.length (fcells l) ∧ Blk W w2.heap.size 41 #[S [97], S [98], .bool false] ∧ But (fun k => k = r) w W)
  ⟨⟨hR2.on hA, hB2.below (hA.mono (by omega)), (hD.but hb2 (fun e => hdr e)).on hA, (hT.but hb2 (fun e => htr e)).on hA⟩, obj_below ((hb2.block m1 (lt_of_block h1) q1).trans h1) hA (Nat.lt_of_lt_of_le (lt_of_block h1) hz2), obj_below ((hb2.block m2 (lt_of_block h2) q2).trans h2) hA (Nat.lt_of_lt_of_le (lt_of_block h2) hz2), own_below ho2 hA, Blk.new _ _ _, hb2.trans (But.of_below hA)⟩ ?_
 obtain ⟨fb, efb⟩ : ∃ fb, fb = w2.heap.size := ⟨_, rfl⟩
 have hfb : base ≤ fb := by omega
 rw [← efb]
 clear hA ho2 hR2 hB2 hb2 hL y1 x0 hR hD hT h1 h2 ho efb hz2
 rintro W ⟨⟨hR, hB, hD, hT⟩, h1, h2, ho, hF, hu⟩
 have x0 : W.cell? ⟨r, 0, none⟩ = some (Ptr d) := hR.cell 0
 have x2 : W.cell? ⟨d, 2, none⟩ = some (Ptr t) := hD.cell 2
 have g0 : W.cell? ⟨fb, 0, none⟩ = some (S [97]) := hF.cell 0
 have g1 : W.cell? ⟨fb, 1, none⟩ = some (S [98]) := hF.cell 1
 have g2 : W.cell? ⟨fb, 2, none⟩ = some (.bool false) := hF.cell 2
 have hAdd := Add_ab W.drew hT.drew h1 h2 h12
 go_cut [] (fun wx => (∃ a c, Blk wx t 210 #[.int .i64 4096, .int .i64 34, .slice a 1 c, .int .i64 0, .map (some m1), .map (some m2)] ∧ wx.ownsRow W.heap.size 274 2 (.slice a 1 c) 1 abC.toList) ∧ But (fun k => k = t ∨ k = m1 ∨ k = m2) W wx)
 case first =>
  go_region_with (go_at_call 169;go_must ((with_reducible refine hAdd.mono ?_);rintro e w4 ⟨rfl, hT4, hb4⟩))
  all_goals (go_wp2;go_meet;exact ⟨hT4, (But.refl _ W).drew.trans hb4⟩)
 case rest =>
  obtain ⟨⟨ta, tc, hT4, hrow4⟩, hb4⟩ := hcut
  obtain ⟨w4, rfl⟩ : ∃ w4, w4 = wc := ⟨_, rfl⟩
  have hz4 := hb4.size
  have hzu := hu.size
  have hfl := hF.lt
  have hR4 := hR.but hb4 (by intro e;rcases e with e | e | e;exact htr e.symm;exact q1 e.symm;exact q2 e.symm)
  have hF4 := hF.but hb4 (by intro e;omega)
  have hB4 : By B w4 v2 rest := hB.keep fun g off c hg hc => hb4.block g (by omega) (by
   rintro (e | e | e)
   ·exact no_b8 hT (tab_b8 (by intro c;simp)) _ _ (e ▸ hc)
   ·exact no_b8_map h1 _ _ (e ▸ hc)
   ·exact no_b8_map h2 _ _ (e ▸ hc))
  have ho4 := own_same ho fun g hg => hb4.block g (own_lt ho hg).2 (by intro e;have := (own_lt ho hg).1;omega)
  have k0 : w4.cell? ⟨fb, 0, none⟩ = some (S [97]) := hF4.cell 0
  have k1 : w4.cell? ⟨fb, 1, none⟩ = some (S [98]) := hF4.cell 1
  have k2 : w4.cell? ⟨fb, 2, none⟩ = some (.bool false) := hF4.cell 2
  have hPut := Put_own l ⟨[97], [98], false⟩ w4 base hR4 hbr (by omega) ho4 (by decide) (by decide) hc0 hc1 hll
  clear x0 x2 g0 g1 g2 hAdd
  go_wp2_with (go_at_call 165;go_must ((with_reducible refine hPut.mono ?_);rintro e w5 ⟨rfl, a5, c5, hR5, ho5, hb5⟩))
  go_end0
  have hlo : ∀ k, (k = r ∨ some k = fv.ownBlock) → k = r ∨ base ≤ k := fun k hk => by
   rcases hk with h | h
   ·exact .inl h
   ·exact .inr (own_lt ho4 h).1
  refine ⟨rfl, ⟨v2, _, hR5, hB4.below (hb5.below (fun k hk => by have := hlo k hk;omega) (show B ≤ w4.heap.size by omega)), by rw [List.length_append];exact ho5⟩, ⟨ta, tc, hT4.but hb5 (fun e => by have := hlo t e;omega), own_same (own_base hrow4 (by omega)) fun g hg => ?_⟩, ((hu.more fun k h => .inl h).trans (hb4.more fun k h => by rcases h with h | h | h;exact .inr (.inl h);exact .inr (.inr (.inl h));exact .inr (.inr (.inr (.inl h))))).trans (hb5.more fun k h => by rcases hlo k h with h | h;exact .inl h;exact .inr (.inr (.inr (.inr h))))⟩
  have hg1 := own_lt hrow4 hg
  refine hb5.block g hg1.2 ?_
  rintro (e | e)
  ·omega
  ·have := (own_lt ho e).2
   omega
end Go.Proofs.YtkeeofhjdffhbaaGreatDoor
