/- Parts of the proof of pt_root: the texts Chp2. -/
import Derived.Test.YtkeeofhjdffhbaaGreatDoorT9
set_option linter.unusedSimpArgs false
set_option linter.unusedVariables false
set_option linter.unnecessarySimpa false
namespace Go.Proofs.YtkeeofhjdffhbaaGreatDoor
open Go.RowKit Go.Dr
set_option maxHeartbeats 4000000 in
theorem bset12 {w : World} {g : Nat} {t : TypeId} {z0 z1 z2 z3 z4 z5 z6 z7 z8 z9 z10 z11 : Value} (h : Blk w g t #[z0, z1, z2, z3, z4, z5, z6, z7, z8, z9, z10, z11]) (b0 b1 b2 b3 b4 b5 b6 b7 b8 b9 b10 b11 : Value) : Blk ((((((((((((w.setCell ⟨g, 0, none⟩ b0).setCell ⟨g, 1, none⟩ b1).setCell ⟨g, 2, none⟩ b2).setCell ⟨g, 3, none⟩ b3).setCell ⟨g, 4, none⟩ b4).setCell ⟨g, 5, none⟩ b5).setCell ⟨g, 6, none⟩ b6).setCell ⟨g, 7, none⟩ b7).setCell ⟨g, 8, none⟩ b8).setCell ⟨g, 9, none⟩ b9).setCell ⟨g, 10, none⟩ b10).setCell ⟨g, 11, none⟩ b11) g t #[b0, b1, b2, b3, b4, b5, b6, b7, b8, b9, b10, b11] := by
 have := ((((((((((((h.set 0 b0).set 1 b1).set 2 b2).set 3 b3).set 4 b4).set 5 b5).set 6 b6).set 7 b7).set 8 b8).set 9 b9).set 10 b10).set 11 b11)
 simpa using this
theorem bset3 {w : World} {g : Nat} {t : TypeId} {z0 z1 z2 : Value} (h : Blk w g t #[z0, z1, z2]) (b0 b1 b2 : Value) : Blk (((w.setCell ⟨g, 0, none⟩ b0).setCell ⟨g, 1, none⟩ b1).setCell ⟨g, 2, none⟩ b2) g t #[b0, b1, b2] := ((h.set 0 b0).set 1 b1).set 2 b2
theorem bset12z {w : World} {g : Nat} {t : TypeId} (h : Blk w g t #[.int .i64 0, .int .i64 0, .int .i64 0, S [], .int .i64 0, .slice none 0 0, .int .i64 0, .int .i64 0, .int .i64 0, .int .i64 0, .int .i64 0, .bool false]) (b0 b1 b2 b3 b4 b5 b6 b7 b8 b9 b10 b11 : Value) : Blk ((((((((((((w.setCell ⟨g, 0, none⟩ b0).setCell ⟨g, 1, none⟩ b1).setCell ⟨g, 2, none⟩ b2).setCell ⟨g, 3, none⟩ b3).setCell ⟨g, 4, none⟩ b4).setCell ⟨g, 5, none⟩ b5).setCell ⟨g, 6, none⟩ b6).setCell ⟨g, 7, none⟩ b7).setCell ⟨g, 8, none⟩ b8).setCell ⟨g, 9, none⟩ b9).setCell ⟨g, 10, none⟩ b10).setCell ⟨g, 11, none⟩ b11) g t #[b0, b1, b2, b3, b4, b5, b6, b7, b8, b9, b10, b11] := bset12 h b0 b1 b2 b3 b4 b5 b6 b7 b8 b9 b10 b11
theorem bset3z {w : World} {g : Nat} {t : TypeId} (h : Blk w g t #[.bool false, .int .i64 0, .int .i64 0]) (b0 b1 b2 : Value) : Blk (((w.setCell ⟨g, 0, none⟩ b0).setCell ⟨g, 1, none⟩ b1).setCell ⟨g, 2, none⟩ b2) g t #[b0, b1, b2] := bset3 h b0 b1 b2
theorem bnew_at (w : World) (t : TypeId) (xs : Array Value) (g : Nat) (h : w.heap.size = g) : Blk (w.alloc (.cells xs t)) g t xs := by subst h;exact Blk.new w t xs
theorem own_but {S : Nat → Prop} {base : Nat} {w w' : World} {e : TypeId} {size : Nat} {v : Value} {n : Nat} {xs : List Value} (h : w.ownsRow base e size v n xs) (hb : But S w w') (hS : ∀ g cur, w.heap[g]? = some (.cells cur e (0, 0)) → ¬ S g) : w'.ownsRow base e size v n xs :=
 own_block h fun g cur hg _ => hb.block g (lt_of_block hg) (hS g cur hg)
/-- the items at the head of bytes, what is left, whether a fault of the connection came -/
def itemsF (most : Nat) : Nat → Bytes → List (Fr × Ft) × Bytes × Bool
 | 0, l => ([], l, false)
 | k + 1, l =>
  if (takeF l most).2.1 = 0 ∧ (takeF l most).2.2.is = false then ([], l, false)
  else if (takeF l most).2.2.is = true ∧ (takeF l most).2.2.st = 0 then ([((takeF l most).1, (takeF l most).2.2)], l.drop (takeF l most).2.1, true)
  else (((takeF l most).1, (takeF l most).2.2) :: (itemsF most k (l.drop (takeF l most).2.1)).1, (itemsF most k (l.drop (takeF l most).2.1)).2)
theorem takeF_le (l : Bytes) (most : Nat) : (takeF l most).2.1 ≤ l.length := by
 unfold takeF
 repeat' split
 all_goals (simp only;first | omega | exact Nat.zero_le _)
theorem takeF_pos (l : Bytes) (most : Nat) (h : (takeF l most).2.1 = 0) : (takeF l most).2.2.is = false ∨ (takeF l most).2.2.st = 0 := by
 generalize hr : takeF l most = r at h ⊢
 unfold takeF at hr
 repeat' split at hr
 all_goals (subst hr;first | exact .inl rfl | exact .inr rfl | (simp only at h;omega))
theorem By.feed {N : Nat} {w : World} {v : Value} {l : Bytes} {fb : Nat} {x y : Int} {a : Option Addr} {m c : Nat} {o : Bool} (h : By N w v l) (hf : Blk w fb 158 #[.int .i64 x, .int .i64 y, .slice a m c, .bool o]) (k : Nat) (u : Value) : By N (w.setCell ⟨fb, k, none⟩ u) v l := by
 obtain ⟨a', cap, h1, h2, h3, h4, h5, h6⟩ := h
 refine ⟨a', cap, h1, h2, h3, h4, h5, fun j z hz => ?_⟩
 obtain ⟨b, off, e1, e2, e3⟩ := h6 j z hz
 refine ⟨b, off, e1, e2, ?_⟩
 obtain ⟨t, rfl⟩ : ∃ t, z = B8 t := by
  rw [List.getElem?_map] at hz
  cases hq : l[j]? with
  | none => rw [hq] at hz;cases hz
  | some t => rw [hq] at hz;exact ⟨t, (Option.some.inj hz).symm⟩
 by_cases e : b = fb
 ·subst e
  rw [hf.cell (off + j)] at e3
  match off + j, e3 with
  | 0, e3 => cases e3
  | 1, e3 => cases e3
  | 2, e3 => cases e3
  | 3, e3 => cases e3
  | i + 4, e3 => simp at e3
 ·rw [World.cell?_setCell_other _ _ _ _ (fun h => e (congrArg Addr.block h).symm)]
  exact e3
def itemV (f : Fr) (vs : Value) (x : Ft) : Value := .agg #[.int .i64 (f.ty : Nat), .int .i64 (f.fl : Nat), .int .i64 (f.st : Nat), S f.data, .int .i64 (f.pad : Nat), vs, .int .i64 (f.code : Nat), .int .i64 (f.last : Nat), .int .i64 (f.inc : Nat), .int .i64 (f.dep : Nat), .int .i64 (f.wt : Nat), .bool f.sole, .bool x.is, .int .i64 (x.code : Nat), .int .i64 (x.st : Nat)]
def leftIn (w : World) (b : Nat) : Nat := match w.cell? ⟨b, 2, none⟩ with | some (.slice _ n _) => n | _ => 0
theorem leftIn_eq {w : World} {b : Nat} {most : Int} {pre : Int} {o : Bool} {a : Option Addr} {n c : Nat} (h : Blk w b 158 #[.int .i64 most, .int .i64 pre, .slice a n c, .bool o]) : leftIn w b = n := by
 unfold leftIn
 rw [show w.cell? ⟨b, 2, none⟩ = some (.slice a n c) from h.cell 2]
set_option maxRecDepth 100000 in
set_option maxHeartbeats 8000000 in
theorem items_any {N fb pb L : Nat} {most : Nat} {pre : Int} (v : Value) (l : Bytes) (W1 : World) (J : List (Fr × Ft) → World → Prop)
  (hmost : most ≤ 16777215) (hfb : fb < N) (hN : N ≤ W1.heap.size) (hp : One W1 pb 88 (Ptr fb)) (hne : pb ≠ fb)
  (hf : Blk W1 fb 158 #[.int .i64 (most : Int), .int .i64 pre, v, .bool false]) (hb : By N W1 v l) (h0 : J [] W1)
  (hJ : ∀ q W W', J q W → But (fun k => k = fb) W W' → J q W')
  (hY : ∀ q f vs x W, J q W → q.length ≤ l.length → One W pb 88 (Ptr fb) → W1.heap.size ≤ W.heap.size → W.ownsRow W1.heap.size 31 2 vs f.sets.length (scells f.sets) →
   YieldAt Fence.wide 1 Tryz.prog L #[itemV f vs x] W fun e W' => e = .returned (.bool true) ∧ (J (q ++ [(f, x)]) W' ∧ Below N W W' ∧ One W' pb 88 (Ptr fb) ∧ W.heap.size ≤ W'.heap.size)) :
  Calls Tryz.prog 113 #[.func (.yield L) #[] #[], Ptr pb] W1 fun e W2 => (∃ v, e = .returned v) ∧
   J (itemsF most (l.length + 1) l).1 W2 ∧ One W2 pb 88 (Ptr fb) ∧ ∃ v', Blk W2 fb 158 #[.int .i64 (most : Int), .int .i64 pre, v', .bool (itemsF most (l.length + 1) l).2.2] ∧ By N W2 v' (itemsF most (l.length + 1) l).2.1 := by
 obtain ⟨R, eR⟩ : ∃ R, R = itemsF most (l.length + 1) l := ⟨_, rfl⟩
 rw [← eR]
 have HR := Lib.hid eR
 clear eR
 go_enter Tryz.func113, Tryz.ntmps113
 go_wp2
 go_loopw [] (fun wr => ∃ k q v' l', l'.length < k ∧ R = (q ++ (itemsF most k l').1, (itemsF most k l').2) ∧ Blk wr fb 158 #[.int .i64 (most : Int), .int .i64 pre, v', .bool false] ∧ By N wr v' l' ∧ One wr pb 88 (Ptr fb) ∧ J q wr ∧ W1.heap.size ≤ wr.heap.size ∧ q.length + l'.length ≤ l.length) (fun wr => leftIn wr fb)
 case atStart => exact ⟨l.length + 1, [], v, l, by omega, by rw [HR.out];rfl, hf, hb, hp, h0, Nat.le_refl _, by simp⟩
 case round =>
  obtain ⟨k, q, v', l', hk, hRk, hfr, hbr, hpr, hj, hsz, hql⟩ := hrel
  obtain ⟨av, cv, rfl, hcv, hcm⟩ := hbr.form
  have hT := Take_any l' _ most wr.drew (hbr.mono (Nat.le_trans hN hsz)) hmost
  obtain ⟨f, x, n, er⟩ : ∃ f x n, takeF l' most = (f, n, x) := ⟨_, _, _, rfl⟩
  have hTg : ∀ W, Below wr.heap.size wr W → Calls Tryz.prog 114 #[.slice av l'.length cv, .int .i64 (most : Int)] W fun e w' => ∃ vs, e = .returned (.tuple #[.agg (f.cells vs), .int .i64 (n : Nat), x.val]) ∧ w'.ownsRow wr.heap.size 31 2 vs f.sets.length (scells f.sets) ∧ Below wr.heap.size wr w' ∧ Below W.heap.size W w' := fun W hW => by
   refine (Take_any l' _ most W ((hbr.below (hW.mono (Nat.le_trans hN hsz))).mono (Nat.le_trans (Nat.le_trans hN hsz) hW.size)) hmost).mono ?_
   rintro e w' ⟨vs, h1, h2, h3⟩
   rw [er] at h1 h2
   exact ⟨vs, h1, own_base h2 hW.size, hW.trans (h3.mono hW.size), h3⟩
  have hS : ∀ wx, Below wr.heap.size wr wx → wx.cell? ⟨pb, 0, none⟩ = some (Ptr fb) ∧ wx.cell? ⟨fb, 2, none⟩ = some (.slice av l'.length cv) ∧ wx.cell? ⟨fb, 0, none⟩ = some (.int .i64 (most : Int)) := fun wx hx => ⟨(hpr.below hx hpr.lt).cell, (hfr.on hx).cell 2, (hfr.on hx).cell 0⟩
  have ER := Lib.hid er
  have HRK := Lib.hid hRk
  clear er hRk hT hf hb hp
  obtain ⟨ty, fl, st, da, pad, sets, code, last, inc, dep, wt, sole⟩ := f
  obtain ⟨xi, xc, xs⟩ := x
  simp only [Fr.cells, Ft.val] at hTg
  go_upto_region 0 with fail
  go_cut [3, 4, 5] from 6 to 56 (fun s3 s4 s5 wx => ∃ gF gX vs, s3 = Ptr gF ∧ s4 = .int .i64 (n : Nat) ∧ s5 = Ptr gX ∧ Blk wx gF 34 #[.int .i64 (ty : Nat), .int .i64 (fl : Nat), .int .i64 (st : Nat), S da, .int .i64 (pad : Nat), vs, .int .i64 (code : Nat), .int .i64 (last : Nat), .int .i64 (inc : Nat), .int .i64 (dep : Nat), .int .i64 (wt : Nat), .bool sole] ∧ Blk wx gX 72 #[.bool xi, .int .i64 (xc : Nat), .int .i64 (xs : Nat)] ∧ Below wr.heap.size wr wx ∧ wx.ownsRow wr.heap.size 31 2 vs sets.length (scells sets))
  case first =>
   go_region_held3 (fun wx => wx.cell? ⟨pb, 0, none⟩ = some (Ptr fb) ∧ wx.cell? ⟨fb, 2, none⟩ = some (.slice av l'.length cv) ∧ wx.cell? ⟨fb, 0, none⟩ = some (.int .i64 (most : Int)))
    (exact hS _ (by repeat (first | (with_reducible exact hw2) | (with_reducible exact Below.refl _ _) | (with_reducible refine Below.drew ?_) | ((with_reducible refine Below.alloc ?_ ?_ _);rotate_left;(first | omega | exact (by simp <;> omega))) | ((with_reducible refine Below.setCell ?_ ?_ _);rotate_left;(dsimp only;first | omega | exact (by simp <;> omega))))))
    (first
     | (go_at_call 114;(with_reducible refine (hTg wr.drew (by repeat (first | (with_reducible exact hw2) | (with_reducible exact Below.refl _ _) | (with_reducible refine Below.drew ?_) | ((with_reducible refine Below.alloc ?_ ?_ _);rotate_left;(first | omega | exact (by simp <;> omega))) | ((with_reducible refine Below.setCell ?_ ?_ _);rotate_left;(dsimp only;first | omega | exact (by simp <;> omega)))))).mono ?_);rintro e w2 ⟨vs, rfl, ho2, hw2, hb2⟩;obtain ⟨va, vc, rfl⟩ := own_form ho2;have hz2 := hw2.size;have hz3 : wr.drew.heap.size ≤ w2.heap.size := hb2.size;(try simp at hz3))
     | (go_at_call 114;(with_reducible refine (hTg (wr.alloc (.cells #[.int .i64 0, .int .i64 0, .int .i64 0, S [], .int .i64 0, .slice none 0 0, .int .i64 0, .int .i64 0, .int .i64 0, .int .i64 0, .int .i64 0, .bool false] 34)).drew (by repeat (first | (with_reducible exact hw2) | (with_reducible exact Below.refl _ _) | (with_reducible refine Below.drew ?_) | ((with_reducible refine Below.alloc ?_ ?_ _);rotate_left;(first | omega | exact (by simp <;> omega))) | ((with_reducible refine Below.setCell ?_ ?_ _);rotate_left;(dsimp only;first | omega | exact (by simp <;> omega)))))).mono ?_);rintro e w2 ⟨vs, rfl, ho2, hw2, hb2⟩;obtain ⟨va, vc, rfl⟩ := own_form ho2;have hz2 := hw2.size;have hz3 : (wr.alloc (.cells #[.int .i64 0, .int .i64 0, .int .i64 0, S [], .int .i64 0, .slice none 0 0, .int .i64 0, .int .i64 0, .int .i64 0, .int .i64 0, .int .i64 0, .bool false] 34)).drew.heap.size ≤ w2.heap.size := hb2.size;(try simp at hz3);have hFr : Blk w2 wr.heap.size 34 #[(.int .i64 0), (.int .i64 0), (.int .i64 0), (S []), (.int .i64 0), (.slice none 0 0), (.int .i64 0), (.int .i64 0), (.int .i64 0), (.int .i64 0), (.int .i64 0), (.bool false)] := Blk.on (w := (wr.alloc (.cells #[.int .i64 0, .int .i64 0, .int .i64 0, S [], .int .i64 0, .slice none 0 0, .int .i64 0, .int .i64 0, .int .i64 0, .int .i64 0, .int .i64 0, .bool false] 34)).drew) (by exact (Blk.new wr _ _).drew) hb2;have y0 : w2.cell? ⟨wr.heap.size, 0, none⟩ = some (.int .i64 0) := hFr.cell 0;have y1 : w2.cell? ⟨wr.heap.size, 1, none⟩ = some (.int .i64 0) := hFr.cell 1;have y2 : w2.cell? ⟨wr.heap.size, 2, none⟩ = some (.int .i64 0) := hFr.cell 2;have y3 : w2.cell? ⟨wr.heap.size, 3, none⟩ = some (S []) := hFr.cell 3;have y4 : w2.cell? ⟨wr.heap.size, 4, none⟩ = some (.int .i64 0) := hFr.cell 4;have y5 : w2.cell? ⟨wr.heap.size, 5, none⟩ = some (.slice none 0 0) := hFr.cell 5;have y6 : w2.cell? ⟨wr.heap.size, 6, none⟩ = some (.int .i64 0) := hFr.cell 6;have y7 : w2.cell? ⟨wr.heap.size, 7, none⟩ = some (.int .i64 0) := hFr.cell 7;have y8 : w2.cell? ⟨wr.heap.size, 8, none⟩ = some (.int .i64 0) := hFr.cell 8;have y9 : w2.cell? ⟨wr.heap.size, 9, none⟩ = some (.int .i64 0) := hFr.cell 9;have y10 : w2.cell? ⟨wr.heap.size, 10, none⟩ = some (.int .i64 0) := hFr.cell 10;have y11 : w2.cell? ⟨wr.heap.size, 11, none⟩ = some (.bool false) := hFr.cell 11;have f0 := hFr.free 0;have f1 := hFr.free 1;have f2 := hFr.free 2;have f3 := hFr.free 3;have f4 := hFr.free 4;have f5 := hFr.free 5;have f6 := hFr.free 6;have f7 := hFr.free 7;have f8 := hFr.free 8;have f9 := hFr.free 9;have f10 := hFr.free 10;have f11 := hFr.free 11;have ya0 : ∀ o, (w2.alloc o).cell? ⟨wr.heap.size, 0, none⟩ = some (.int .i64 0) := fun o => (hFr.alloc o).cell 0;have fa0 : ∀ o, (w2.alloc o).frozen? ⟨wr.heap.size, 0, none⟩ = false := fun o => (hFr.alloc o).free 0;have ya1 : ∀ o, (w2.alloc o).cell? ⟨wr.heap.size, 1, none⟩ = some (.int .i64 0) := fun o => (hFr.alloc o).cell 1;have fa1 : ∀ o, (w2.alloc o).frozen? ⟨wr.heap.size, 1, none⟩ = false := fun o => (hFr.alloc o).free 1;have ya2 : ∀ o, (w2.alloc o).cell? ⟨wr.heap.size, 2, none⟩ = some (.int .i64 0) := fun o => (hFr.alloc o).cell 2;have fa2 : ∀ o, (w2.alloc o).frozen? ⟨wr.heap.size, 2, none⟩ = false := fun o => (hFr.alloc o).free 2;have ya3 : ∀ o, (w2.alloc o).cell? ⟨wr.heap.size, 3, none⟩ = some (S []) := fun o => (hFr.alloc o).cell 3;have fa3 : ∀ o, (w2.alloc o).frozen? ⟨wr.heap.size, 3, none⟩ = false := fun o => (hFr.alloc o).free 3;have ya4 : ∀ o, (w2.alloc o).cell? ⟨wr.heap.size, 4, none⟩ = some (.int .i64 0) := fun o => (hFr.alloc o).cell 4;have fa4 : ∀ o, (w2.alloc o).frozen? ⟨wr.heap.size, 4, none⟩ = false := fun o => (hFr.alloc o).free 4;have ya5 : ∀ o, (w2.alloc o).cell? ⟨wr.heap.size, 5, none⟩ = some (.slice none 0 0) := fun o => (hFr.alloc o).cell 5;have fa5 : ∀ o, (w2.alloc o).frozen? ⟨wr.heap.size, 5, none⟩ = false := fun o => (hFr.alloc o).free 5;have ya6 : ∀ o, (w2.alloc o).cell? ⟨wr.heap.size, 6, none⟩ = some (.int .i64 0) := fun o => (hFr.alloc o).cell 6;have fa6 : ∀ o, (w2.alloc o).frozen? ⟨wr.heap.size, 6, none⟩ = false := fun o => (hFr.alloc o).free 6;have ya7 : ∀ o, (w2.alloc o).cell? ⟨wr.heap.size, 7, none⟩ = some (.int .i64 0) := fun o => (hFr.alloc o).cell 7;have fa7 : ∀ o, (w2.alloc o).frozen? ⟨wr.heap.size, 7, none⟩ = false := fun o => (hFr.alloc o).free 7;have ya8 : ∀ o, (w2.alloc o).cell? ⟨wr.heap.size, 8, none⟩ = some (.int .i64 0) := fun o => (hFr.alloc o).cell 8;have fa8 : ∀ o, (w2.alloc o).frozen? ⟨wr.heap.size, 8, none⟩ = false := fun o => (hFr.alloc o).free 8;have ya9 : ∀ o, (w2.alloc o).cell? ⟨wr.heap.size, 9, none⟩ = some (.int .i64 0) := fun o => (hFr.alloc o).cell 9;have fa9 : ∀ o, (w2.alloc o).frozen? ⟨wr.heap.size, 9, none⟩ = false := fun o => (hFr.alloc o).free 9;have ya10 : ∀ o, (w2.alloc o).cell? ⟨wr.heap.size, 10, none⟩ = some (.int .i64 0) := fun o => (hFr.alloc o).cell 10;have fa10 : ∀ o, (w2.alloc o).frozen? ⟨wr.heap.size, 10, none⟩ = false := fun o => (hFr.alloc o).free 10;have ya11 : ∀ o, (w2.alloc o).cell? ⟨wr.heap.size, 11, none⟩ = some (.bool false) := fun o => (hFr.alloc o).cell 11;have fa11 : ∀ o, (w2.alloc o).frozen? ⟨wr.heap.size, 11, none⟩ = false := fun o => (hFr.alloc o).free 11)
     | (go_at_call 114;(with_reducible refine (hTg (wr.alloc (.cells #[.bool false, .int .i64 0, .int .i64 0] 72)).drew (by repeat (first | (with_reducible exact hw2) | (with_reducible exact Below.refl _ _) | (with_reducible refine Below.drew ?_) | ((with_reducible refine Below.alloc ?_ ?_ _);rotate_left;(first | omega | exact (by simp <;> omega))) | ((with_reducible refine Below.setCell ?_ ?_ _);rotate_left;(dsimp only;first | omega | exact (by simp <;> omega)))))).mono ?_);rintro e w2 ⟨vs, rfl, ho2, hw2, hb2⟩;obtain ⟨va, vc, rfl⟩ := own_form ho2;have hz2 := hw2.size;have hz3 : (wr.alloc (.cells #[.bool false, .int .i64 0, .int .i64 0] 72)).drew.heap.size ≤ w2.heap.size := hb2.size;(try simp at hz3);have hFa : Blk w2 wr.heap.size 72 #[(.bool false), (.int .i64 0), (.int .i64 0)] := Blk.on (w := (wr.alloc (.cells #[.bool false, .int .i64 0, .int .i64 0] 72)).drew) (by exact (Blk.new wr _ _).drew) hb2;have x0 : w2.cell? ⟨wr.heap.size, 0, none⟩ = some (.bool false) := hFa.cell 0;have x1 : w2.cell? ⟨wr.heap.size, 1, none⟩ = some (.int .i64 0) := hFa.cell 1;have x2 : w2.cell? ⟨wr.heap.size, 2, none⟩ = some (.int .i64 0) := hFa.cell 2;have q0 := hFa.free 0;have q1 := hFa.free 1;have q2 := hFa.free 2;have xa0 : ∀ o, (w2.alloc o).cell? ⟨wr.heap.size, 0, none⟩ = some (.bool false) := fun o => (hFa.alloc o).cell 0;have qa0 : ∀ o, (w2.alloc o).frozen? ⟨wr.heap.size, 0, none⟩ = false := fun o => (hFa.alloc o).free 0;have xa1 : ∀ o, (w2.alloc o).cell? ⟨wr.heap.size, 1, none⟩ = some (.int .i64 0) := fun o => (hFa.alloc o).cell 1;have qa1 : ∀ o, (w2.alloc o).frozen? ⟨wr.heap.size, 1, none⟩ = false := fun o => (hFa.alloc o).free 1;have xa2 : ∀ o, (w2.alloc o).cell? ⟨wr.heap.size, 2, none⟩ = some (.int .i64 0) := fun o => (hFa.alloc o).cell 2;have qa2 : ∀ o, (w2.alloc o).frozen? ⟨wr.heap.size, 2, none⟩ = false := fun o => (hFa.alloc o).free 2)
     | (go_at_call 114;(with_reducible refine (hTg ((wr.alloc (.cells #[.int .i64 0, .int .i64 0, .int .i64 0, S [], .int .i64 0, .slice none 0 0, .int .i64 0, .int .i64 0, .int .i64 0, .int .i64 0, .int .i64 0, .bool false] 34)).alloc (.cells #[.bool false, .int .i64 0, .int .i64 0] 72)).drew (by repeat (first | (with_reducible exact hw2) | (with_reducible exact Below.refl _ _) | (with_reducible refine Below.drew ?_) | ((with_reducible refine Below.alloc ?_ ?_ _);rotate_left;(first | omega | exact (by simp <;> omega))) | ((with_reducible refine Below.setCell ?_ ?_ _);rotate_left;(dsimp only;first | omega | exact (by simp <;> omega)))))).mono ?_);rintro e w2 ⟨vs, rfl, ho2, hw2, hb2⟩;obtain ⟨va, vc, rfl⟩ := own_form ho2;have hz2 := hw2.size;have hz3 : ((wr.alloc (.cells #[.int .i64 0, .int .i64 0, .int .i64 0, S [], .int .i64 0, .slice none 0 0, .int .i64 0, .int .i64 0, .int .i64 0, .int .i64 0, .int .i64 0, .bool false] 34)).alloc (.cells #[.bool false, .int .i64 0, .int .i64 0] 72)).drew.heap.size ≤ w2.heap.size := hb2.size;(try simp at hz3);have hFr : Blk w2 wr.heap.size 34 #[(.int .i64 0), (.int .i64 0), (.int .i64 0), (S []), (.int .i64 0), (.slice none 0 0), (.int .i64 0), (.int .i64 0), (.int .i64 0), (.int .i64 0), (.int .i64 0), (.bool false)] := Blk.on (w := ((wr.alloc (.cells #[.int .i64 0, .int .i64 0, .int .i64 0, S [], .int .i64 0, .slice none 0 0, .int .i64 0, .int .i64 0, .int .i64 0, .int .i64 0, .int .i64 0, .bool false] 34)).alloc (.cells #[.bool false, .int .i64 0, .int .i64 0] 72)).drew) (by exact ((Blk.new wr _ _).alloc _).drew) hb2;have y0 : w2.cell? ⟨wr.heap.size, 0, none⟩ = some (.int .i64 0) := hFr.cell 0;have y1 : w2.cell? ⟨wr.heap.size, 1, none⟩ = some (.int .i64 0) := hFr.cell 1;have y2 : w2.cell? ⟨wr.heap.size, 2, none⟩ = some (.int .i64 0) := hFr.cell 2;have y3 : w2.cell? ⟨wr.heap.size, 3, none⟩ = some (S []) := hFr.cell 3;have y4 : w2.cell? ⟨wr.heap.size, 4, none⟩ = some (.int .i64 0) := hFr.cell 4;have y5 : w2.cell? ⟨wr.heap.size, 5, none⟩ = some (.slice none 0 0) := hFr.cell 5;have y6 : w2.cell? ⟨wr.heap.size, 6, none⟩ = some (.int .i64 0) := hFr.cell 6;have y7 : w2.cell? ⟨wr.heap.size, 7, none⟩ = some (.int .i64 0) := hFr.cell 7;have y8 : w2.cell? ⟨wr.heap.size, 8, none⟩ = some (.int .i64 0) := hFr.cell 8;have y9 : w2.cell? ⟨wr.heap.size, 9, none⟩ = some (.int .i64 0) := hFr.cell 9;have y10 : w2.cell? ⟨wr.heap.size, 10, none⟩ = some (.int .i64 0) := hFr.cell 10;have y11 : w2.cell? ⟨wr.heap.size, 11, none⟩ = some (.bool false) := hFr.cell 11;have f0 := hFr.free 0;have f1 := hFr.free 1;have f2 := hFr.free 2;have f3 := hFr.free 3;have f4 := hFr.free 4;have f5 := hFr.free 5;have f6 := hFr.free 6;have f7 := hFr.free 7;have f8 := hFr.free 8;have f9 := hFr.free 9;have f10 := hFr.free 10;have f11 := hFr.free 11;have hFa : Blk w2 (wr.heap.size + 1) 72 #[(.bool false), (.int .i64 0), (.int .i64 0)] := Blk.on (w := ((wr.alloc (.cells #[.int .i64 0, .int .i64 0, .int .i64 0, S [], .int .i64 0, .slice none 0 0, .int .i64 0, .int .i64 0, .int .i64 0, .int .i64 0, .int .i64 0, .bool false] 34)).alloc (.cells #[.bool false, .int .i64 0, .int .i64 0] 72)).drew) (by have q := Blk.new (wr.alloc (.cells #[.int .i64 0, .int .i64 0, .int .i64 0, S [], .int .i64 0, .slice none 0 0, .int .i64 0, .int .i64 0, .int .i64 0, .int .i64 0, .int .i64 0, .bool false] 34)) 72 #[(.bool false), (.int .i64 0), (.int .i64 0)];rw [World.size_alloc] at q;exact q.drew) hb2;have x0 : w2.cell? ⟨(wr.heap.size + 1), 0, none⟩ = some (.bool false) := hFa.cell 0;have x1 : w2.cell? ⟨(wr.heap.size + 1), 1, none⟩ = some (.int .i64 0) := hFa.cell 1;have x2 : w2.cell? ⟨(wr.heap.size + 1), 2, none⟩ = some (.int .i64 0) := hFa.cell 2;have q0 := hFa.free 0;have q1 := hFa.free 1;have q2 := hFa.free 2)
     | (go_at_call 114;(with_reducible refine (hTg ((wr.alloc (.cells #[.bool false, .int .i64 0, .int .i64 0] 72)).alloc (.cells #[.int .i64 0, .int .i64 0, .int .i64 0, S [], .int .i64 0, .slice none 0 0, .int .i64 0, .int .i64 0, .int .i64 0, .int .i64 0, .int .i64 0, .bool false] 34)).drew (by repeat (first | (with_reducible exact hw2) | (with_reducible exact Below.refl _ _) | (with_reducible refine Below.drew ?_) | ((with_reducible refine Below.alloc ?_ ?_ _);rotate_left;(first | omega | exact (by simp <;> omega))) | ((with_reducible refine Below.setCell ?_ ?_ _);rotate_left;(dsimp only;first | omega | exact (by simp <;> omega)))))).mono ?_);rintro e w2 ⟨vs, rfl, ho2, hw2, hb2⟩;obtain ⟨va, vc, rfl⟩ := own_form ho2;have hz2 := hw2.size;have hz3 : ((wr.alloc (.cells #[.bool false, .int .i64 0, .int .i64 0] 72)).alloc (.cells #[.int .i64 0, .int .i64 0, .int .i64 0, S [], .int .i64 0, .slice none 0 0, .int .i64 0, .int .i64 0, .int .i64 0, .int .i64 0, .int .i64 0, .bool false] 34)).drew.heap.size ≤ w2.heap.size := hb2.size;(try simp at hz3);have hFr : Blk w2 (wr.heap.size + 1) 34 #[(.int .i64 0), (.int .i64 0), (.int .i64 0), (S []), (.int .i64 0), (.slice none 0 0), (.int .i64 0), (.int .i64 0), (.int .i64 0), (.int .i64 0), (.int .i64 0), (.bool false)] := Blk.on (w := ((wr.alloc (.cells #[.bool false, .int .i64 0, .int .i64 0] 72)).alloc (.cells #[.int .i64 0, .int .i64 0, .int .i64 0, S [], .int .i64 0, .slice none 0 0, .int .i64 0, .int .i64 0, .int .i64 0, .int .i64 0, .int .i64 0, .bool false] 34)).drew) (by have q := Blk.new (wr.alloc (.cells #[.bool false, .int .i64 0, .int .i64 0] 72)) 34 #[(.int .i64 0), (.int .i64 0), (.int .i64 0), (S []), (.int .i64 0), (.slice none 0 0), (.int .i64 0), (.int .i64 0), (.int .i64 0), (.int .i64 0), (.int .i64 0), (.bool false)];rw [World.size_alloc] at q;exact q.drew) hb2;have y0 : w2.cell? ⟨(wr.heap.size + 1), 0, none⟩ = some (.int .i64 0) := hFr.cell 0;have y1 : w2.cell? ⟨(wr.heap.size + 1), 1, none⟩ = some (.int .i64 0) := hFr.cell 1;have y2 : w2.cell? ⟨(wr.heap.size + 1), 2, none⟩ = some (.int .i64 0) := hFr.cell 2;have y3 : w2.cell? ⟨(wr.heap.size + 1), 3, none⟩ = some (S []) := hFr.cell 3;have y4 : w2.cell? ⟨(wr.heap.size + 1), 4, none⟩ = some (.int .i64 0) := hFr.cell 4;have y5 : w2.cell? ⟨(wr.heap.size + 1), 5, none⟩ = some (.slice none 0 0) := hFr.cell 5;have y6 : w2.cell? ⟨(wr.heap.size + 1), 6, none⟩ = some (.int .i64 0) := hFr.cell 6;have y7 : w2.cell? ⟨(wr.heap.size + 1), 7, none⟩ = some (.int .i64 0) := hFr.cell 7;have y8 : w2.cell? ⟨(wr.heap.size + 1), 8, none⟩ = some (.int .i64 0) := hFr.cell 8;have y9 : w2.cell? ⟨(wr.heap.size + 1), 9, none⟩ = some (.int .i64 0) := hFr.cell 9;have y10 : w2.cell? ⟨(wr.heap.size + 1), 10, none⟩ = some (.int .i64 0) := hFr.cell 10;have y11 : w2.cell? ⟨(wr.heap.size + 1), 11, none⟩ = some (.bool false) := hFr.cell 11;have f0 := hFr.free 0;have f1 := hFr.free 1;have f2 := hFr.free 2;have f3 := hFr.free 3;have f4 := hFr.free 4;have f5 := hFr.free 5;have f6 := hFr.free 6;have f7 := hFr.free 7;have f8 := hFr.free 8;have f9 := hFr.free 9;have f10 := hFr.free 10;have f11 := hFr.free 11;have hFa : Blk w2 wr.heap.size 72 #[(.bool false), (.int .i64 0), (.int .i64 0)] := Blk.on (w := ((wr.alloc (.cells #[.bool false, .int .i64 0, .int .i64 0] 72)).alloc (.cells #[.int .i64 0, .int .i64 0, .int .i64 0, S [], .int .i64 0, .slice none 0 0, .int .i64 0, .int .i64 0, .int .i64 0, .int .i64 0, .int .i64 0, .bool false] 34)).drew) (by exact ((Blk.new wr _ _).alloc _).drew) hb2;have x0 : w2.cell? ⟨wr.heap.size, 0, none⟩ = some (.bool false) := hFa.cell 0;have x1 : w2.cell? ⟨wr.heap.size, 1, none⟩ = some (.int .i64 0) := hFa.cell 1;have x2 : w2.cell? ⟨wr.heap.size, 2, none⟩ = some (.int .i64 0) := hFa.cell 2;have q0 := hFa.free 0;have q1 := hFa.free 1;have q2 := hFa.free 2))
   all_goals (
    go_wp2_with fail
    go_meet
    refine ⟨_, _, .slice va sets.length vc, rfl, rfl, rfl, ?_, ?_, ?_, ?_⟩
    ·repeat (first | (with_reducible exact hFr) | (with_reducible exact Blk.new _ _ _) | ((with_reducible refine bnew_at _ _ _ _ ?_);first | rfl | (simp;done)) | (with_reducible refine Blk.alloc ?_ _) | (with_reducible refine bset12z ?_ _ _ _ _ _ _ _ _ _ _ _ _) | ((with_reducible refine Blk.other ?_ ?_ _);rotate_left;(dsimp only;omega)))
    ·repeat (first | (with_reducible exact hFa) | (with_reducible exact Blk.new _ _ _) | ((with_reducible refine bnew_at _ _ _ _ ?_);first | rfl | (simp;done)) | (with_reducible refine Blk.alloc ?_ _) | (with_reducible refine bset3z ?_ _ _ _) | ((with_reducible refine Blk.other ?_ ?_ _);rotate_left;(dsimp only;omega)))
    ·repeat (first | (with_reducible exact hw2) | (with_reducible exact Below.refl _ _) | (with_reducible refine Below.drew ?_) | ((with_reducible refine Below.alloc ?_ ?_ _);rotate_left;(first | omega | exact (by simp <;> omega))) | ((with_reducible refine Below.setCell ?_ ?_ _);rotate_left;(dsimp only;first | omega | exact (by simp <;> omega))))
    ·refine own_but (S := fun k => ∃ xs, Blk w2 k 34 xs ∨ Blk w2 k 72 xs) ho2 (by repeat (first | (with_reducible exact But.refl _ _) | (with_reducible refine But.alloc ?_ _) | ((with_reducible refine But.setCell ?_ ?_ _);rotate_left;(dsimp only;first | exact .inl ⟨_, .inl hFr⟩ | exact .inl ⟨_, .inr hFa⟩ | exact .inr (by omega))))) (fun g cur hg hs => ?_)
     obtain ⟨xs, h | h⟩ := hs
     ·rw [show w2.heap[g]? = _ from h] at hg;simp at hg
     ·rw [show w2.heap[g]? = _ from h] at hg;simp at hg)
  case rest =>
   obtain ⟨gF, gX, vs, rfl, rfl, rfl, hF, hX, hw, ho⟩ := hcut
   have hpc : One wc pb 88 (Ptr fb) := hpr.below hw hpr.lt
   have hfc := hfr.on hw
   have p0 : wc.cell? ⟨pb, 0, none⟩ = some (Ptr fb) := hpc.cell
   have i0 : wc.cell? ⟨fb, 2, none⟩ = some (.slice av l'.length cv) := hfc.cell 2
   have i1 : wc.frozen? ⟨fb, 2, none⟩ = false := hfc.free 2
   have i2 : wc.cell? ⟨fb, 3, none⟩ = some (.bool false) := hfc.cell 3
   have i3 : wc.frozen? ⟨fb, 3, none⟩ = false := hfc.free 3
   have j0 : wc.cell? ⟨gX, 0, none⟩ = some (.bool xi) := hX.cell 0
   have j1 : wc.cell? ⟨gX, 1, none⟩ = some (.int .i64 (xc : Int)) := hX.cell 1
   have j2 : wc.cell? ⟨gX, 2, none⟩ = some (.int .i64 (xs : Int)) := hX.cell 2
   obtain ⟨k, rfl⟩ : ∃ k', k = k' + 1 := ⟨k - 1, by omega⟩
   obtain ⟨va, vc, rfl⟩ := own_form ho
   have hnl : n ≤ l'.length := by have := takeF_le l' most;rw [ER.out] at this;exact this
   by_cases hend : n = 0 ∧ xi = false
   ·have t1 : ((n : Int) == 0) = true := by rw [hend.1];rfl
    have hxi := hend.2
    subst hxi
    have HE := Lib.hid hend.1
    clear hTg hS hend
    go_wp2
    refine bodyPost_ret (results_none rfl _ _ _) rfl ?_
    have e : itemsF most (k + 1) l' = ([], l', false) := by
     unfold itemsF
     rw [ER.out]
     simp [HE.out]
    rw [HRK.out, e]
    refine ⟨⟨_, rfl⟩, ?_, hpc, _, hfc, hbr.below (hw.mono (Nat.le_trans hN hsz))⟩
    rw [List.append_nil]
    exact hJ q wr wc hj (But.of_below hw)
   ·obtain ⟨a2, c2, hD2, hs2⟩ := (hbr.below (hw.mono (Nat.le_trans hN hsz))).from n hnl
    have hi2 : (n : Int) ≤ (l'.length : Int) := by omega
    have HE := Lib.hid hend
    have hHE := HE.out
    have hps := takeF_pos l' most
    rw [ER.out] at hps
    simp only at hps
    have hgX : gX ≠ fb := fun e => by
     have h1 : wc.heap[gX]? = _ := hX
     have h2 : wc.heap[fb]? = _ := hfc
     rw [e, h2] at h1
     simp at h1
    clear hTg hS hend
    cases xi with
    | false =>
     have hn0 : n ≠ 0 := fun e => hHE ⟨e, rfl⟩
     have t1 : ((n : Int) == 0) = false := i_ne (b := 0) hn0
     have HN0 := Lib.hid hn0
     clear hps hHE hn0
     go_upto_region 2 with fail
     refine' (fun (key : (_ : Prop)) => ?main1) ?kp1
     case main1 =>
      go_region_with (fail)
      all_goals exact key
     obtain ⟨w5, e5⟩ : ∃ w5, w5 = (wc.setCell ⟨fb, 2, none⟩ (.slice a2 (l'.length - n) c2)).drew := ⟨_, rfl⟩
     rw [← e5]
     have hfc5 : Blk w5 fb 158 #[.int .i64 (most : Int), .int .i64 pre, .slice a2 (l'.length - n) c2, .bool false] := by rw [e5];exact hfc.set 2 _
     have hX5 : Blk w5 gX 72 #[.bool false, .int .i64 (xc : Nat), .int .i64 (xs : Nat)] := by rw [e5];exact hX.other hgX _
     have hF5 : Blk w5 gF 34 #[.int .i64 (ty : Nat), .int .i64 (fl : Nat), .int .i64 (st : Nat), S da, .int .i64 (pad : Nat), .slice va sets.length vc, .int .i64 (code : Nat), .int .i64 (last : Nat), .int .i64 (inc : Nat), .int .i64 (dep : Nat), .int .i64 (wt : Nat), .bool sole] := by rw [e5];exact hF.other (fun e => by have h1 : wc.heap[gF]? = _ := hF;have h2 : wc.heap[fb]? = _ := hfc;rw [e, h2] at h1;simp at h1) _
     have hp5 : One w5 pb 88 (Ptr fb) := by rw [e5];exact hpc.other hne _
     have hu5 : But (fun k => k = fb) wr w5 := by rw [e5];exact ((But.setCell (S := fun k => k = fb) (But.of_below hw) (p := ⟨fb, 2, none⟩) (.inl rfl) _)).drew
     have ho5 : w5.ownsRow W1.heap.size 31 2 (.slice va sets.length vc) sets.length (scells sets) := by rw [e5];exact ownsRow_setCell_below (own_base ho hsz) (Nat.lt_of_lt_of_le hfb hN) _
     have hD5 : By N w5 (.slice a2 (l'.length - n) c2) (l'.drop n) := by rw [e5];exact hD2.feed hfc 2 _
     have hz5 : W1.heap.size ≤ w5.heap.size := Nat.le_trans hsz hu5.size
     clear e5 hfc hX hF hpc hw ho p0 i0 i1 i2 i3 j0 j1 j2 hs2
     have p0 : w5.cell? ⟨pb, 0, none⟩ = some (Ptr fb) := hp5.cell
     have i2 : w5.cell? ⟨fb, 3, none⟩ = some (.bool false) := hfc5.cell 3
     have i3 : w5.frozen? ⟨fb, 3, none⟩ = false := hfc5.free 3
     have j0 : w5.cell? ⟨gX, 0, none⟩ = some (.bool false) := hX5.cell 0
     have j2 : w5.cell? ⟨gX, 2, none⟩ = some (.int .i64 (xs : Int)) := hX5.cell 2
     go_upto_region 4 with fail
     obtain ⟨w6, e6⟩ : ∃ w6, w6 = w5.setCell ⟨fb, 3, none⟩ (.bool false) := ⟨_, rfl⟩
     rw [← e6]
     have hfc6 : Blk w6 fb 158 #[.int .i64 (most : Int), .int .i64 pre, .slice a2 (l'.length - n) c2, .bool false] := by rw [e6];exact hfc5.set 3 _
     have hX6 : Blk w6 gX 72 #[.bool false, .int .i64 (xc : Nat), .int .i64 (xs : Nat)] := by rw [e6];exact hX5.other hgX _
     have hF6 : Blk w6 gF 34 #[.int .i64 (ty : Nat), .int .i64 (fl : Nat), .int .i64 (st : Nat), S da, .int .i64 (pad : Nat), .slice va sets.length vc, .int .i64 (code : Nat), .int .i64 (last : Nat), .int .i64 (inc : Nat), .int .i64 (dep : Nat), .int .i64 (wt : Nat), .bool sole] := by rw [e6];exact hF5.other (fun e => by have h1 : w5.heap[gF]? = _ := hF5;have h2 : w5.heap[fb]? = _ := hfc5;rw [e, h2] at h1;simp at h1) _
     have hp6 : One w6 pb 88 (Ptr fb) := by rw [e6];exact hp5.other hne _
     have hu6 : But (fun k => k = fb) wr w6 := by rw [e6];exact But.setCell (S := fun k => k = fb) hu5 (p := ⟨fb, 3, none⟩) (.inl rfl) _
     have ho6 : w6.ownsRow W1.heap.size 31 2 (.slice va sets.length vc) sets.length (scells sets) := by rw [e6];exact ownsRow_setCell_below ho5 (Nat.lt_of_lt_of_le hfb hN) _
     have hD6 : By N w6 (.slice a2 (l'.length - n) c2) (l'.drop n) := by rw [e6];exact hD5.feed hfc5 3 _
     have hz6 : W1.heap.size ≤ w6.heap.size := Nat.le_trans hsz hu6.size
     have hj6 := hJ q wr w6 hj hu6
     obtain ⟨fn, tm, as1, bo1, hy, hR⟩ := hY q ⟨ty, fl, st, da, pad, sets, code, last, inc, dep, wt, sole⟩ (.slice va sets.length vc) ⟨false, xc, xs⟩ w6 hj6 (by omega) hp6 hz6 ho6
     simp only [itemV] at hy
     clear e6 hfc5 hX5 hF5 hp5 hu5 ho5 hD5 p0 i2 i3 j0 j2
     have p0 : w6.cell? ⟨pb, 0, none⟩ = some (Ptr fb) := hp6.cell
     have m0 : w6.cell? ⟨gF, 0, none⟩ = some (.int .i64 (ty : Nat)) := hF6.cell 0
     have m1 : w6.cell? ⟨gF, 1, none⟩ = some (.int .i64 (fl : Nat)) := hF6.cell 1
     have m2 : w6.cell? ⟨gF, 2, none⟩ = some (.int .i64 (st : Nat)) := hF6.cell 2
     have m3 : w6.cell? ⟨gF, 3, none⟩ = some (S da) := hF6.cell 3
     have m4 : w6.cell? ⟨gF, 4, none⟩ = some (.int .i64 (pad : Nat)) := hF6.cell 4
     have m5 : w6.cell? ⟨gF, 5, none⟩ = some (.slice va sets.length vc) := hF6.cell 5
     have m6 : w6.cell? ⟨gF, 6, none⟩ = some (.int .i64 (code : Nat)) := hF6.cell 6
     have m7 : w6.cell? ⟨gF, 7, none⟩ = some (.int .i64 (last : Nat)) := hF6.cell 7
     have m8 : w6.cell? ⟨gF, 8, none⟩ = some (.int .i64 (inc : Nat)) := hF6.cell 8
     have m9 : w6.cell? ⟨gF, 9, none⟩ = some (.int .i64 (dep : Nat)) := hF6.cell 9
     have m10 : w6.cell? ⟨gF, 10, none⟩ = some (.int .i64 (wt : Nat)) := hF6.cell 10
     have m11 : w6.cell? ⟨gF, 11, none⟩ = some (.bool sole) := hF6.cell 11
     have j0 : w6.cell? ⟨gX, 0, none⟩ = some (.bool false) := hX6.cell 0
     have j1 : w6.cell? ⟨gX, 1, none⟩ = some (.int .i64 (xc : Int)) := hX6.cell 1
     have j2 : w6.cell? ⟨gX, 2, none⟩ = some (.int .i64 (xs : Int)) := hX6.cell 2
     refine (wpIn_wide (n := 2)).1 ?_
     gi_wp2
     refine hR.mono ?_
     rintro e w7 ⟨rfl, hJ7, hB7, hp7, hz7⟩
     have hf7 : Blk w7 fb 158 #[.int .i64 (most : Int), .int .i64 pre, .slice a2 (l'.length - n) c2, .bool false] := hfc6.below hB7 hfb
     have hD7 := hD6.below hB7
     clear hy hR hfc6 hX6 hF6 hp6 hu6 ho6 hD6 hj6 p0 m0 m1 m2 m3 m4 m5 m6 m7 m8 m9 m10 m11 j0 j1 j2
     have p0 : w7.cell? ⟨pb, 0, none⟩ = some (Ptr fb) := hp7.cell
     have i3 : w7.cell? ⟨fb, 3, none⟩ = some (.bool false) := hf7.cell 3
     gi_wp2
     go_wp2
     go_roundw
     case rel =>
      have e : itemsF most (k + 1) l' = ((⟨ty, fl, st, da, pad, sets, code, last, inc, dep, wt, sole⟩, ⟨false, xc, xs⟩) :: (itemsF most k (l'.drop n)).1, (itemsF most k (l'.drop n)).2) := by
       rw [itemsF]
       rw [ER.out]
       simp [HN0.out]
      have hn1 := HN0.out
      refine ⟨k, q ++ [(⟨ty, fl, st, da, pad, sets, code, last, inc, dep, wt, sole⟩, ⟨false, xc, xs⟩)], .slice a2 (l'.length - n) c2, l'.drop n, ?_, ?_, hf7, hD7, hp7, hJ7, Nat.le_trans hz6 hz7, by rw [List.length_append, List.length_drop, List.length_singleton];omega⟩
      ·rw [List.length_drop];omega
      ·rw [HRK.out, e];simp
     case measure =>
      have hn1 := HN0.out
      rw [leftIn_eq hf7, leftIn_eq hfr];omega
    | true =>
     by_cases hx0 : xs = 0
     ·have t2 : ((xs : Int) == 0) = true := by rw [hx0];rfl
      have HX0 := Lib.hid hx0
      clear hps hHE hx0
      by_cases hn0 : n = 0
      ·have t1 : ((n : Int) == 0) = true := by rw [hn0];rfl
       clear hn0
       go_upto_region 2 with fail
       refine' (fun (key : (_ : Prop)) => ?main2) ?kp2
       case main2 =>
        go_region_with (fail)
        all_goals exact key
       obtain ⟨w5, e5⟩ : ∃ w5, w5 = (wc.setCell ⟨fb, 2, none⟩ (.slice a2 (l'.length - n) c2)).drew := ⟨_, rfl⟩
       rw [← e5]
       have hfc5 : Blk w5 fb 158 #[.int .i64 (most : Int), .int .i64 pre, .slice a2 (l'.length - n) c2, .bool false] := by rw [e5];exact hfc.set 2 _
       have hX5 : Blk w5 gX 72 #[.bool true, .int .i64 (xc : Nat), .int .i64 (xs : Nat)] := by rw [e5];exact hX.other hgX _
       have hF5 : Blk w5 gF 34 #[.int .i64 (ty : Nat), .int .i64 (fl : Nat), .int .i64 (st : Nat), S da, .int .i64 (pad : Nat), .slice va sets.length vc, .int .i64 (code : Nat), .int .i64 (last : Nat), .int .i64 (inc : Nat), .int .i64 (dep : Nat), .int .i64 (wt : Nat), .bool sole] := by rw [e5];exact hF.other (fun e => by have h1 : wc.heap[gF]? = _ := hF;have h2 : wc.heap[fb]? = _ := hfc;rw [e, h2] at h1;simp at h1) _
       have hp5 : One w5 pb 88 (Ptr fb) := by rw [e5];exact hpc.other hne _
       have hu5 : But (fun k => k = fb) wr w5 := by rw [e5];exact ((But.setCell (S := fun k => k = fb) (But.of_below hw) (p := ⟨fb, 2, none⟩) (.inl rfl) _)).drew
       have ho5 : w5.ownsRow W1.heap.size 31 2 (.slice va sets.length vc) sets.length (scells sets) := by rw [e5];exact ownsRow_setCell_below (own_base ho hsz) (Nat.lt_of_lt_of_le hfb hN) _
       have hD5 : By N w5 (.slice a2 (l'.length - n) c2) (l'.drop n) := by rw [e5];exact hD2.feed hfc 2 _
       have hz5 : W1.heap.size ≤ w5.heap.size := Nat.le_trans hsz hu5.size
       clear e5 hfc hX hF hpc hw ho p0 i0 i1 i2 i3 j0 j1 j2 hs2
       have p0 : w5.cell? ⟨pb, 0, none⟩ = some (Ptr fb) := hp5.cell
       have i2 : w5.cell? ⟨fb, 3, none⟩ = some (.bool false) := hfc5.cell 3
       have i3 : w5.frozen? ⟨fb, 3, none⟩ = false := hfc5.free 3
       have j0 : w5.cell? ⟨gX, 0, none⟩ = some (.bool true) := hX5.cell 0
       have j2 : w5.cell? ⟨gX, 2, none⟩ = some (.int .i64 (xs : Int)) := hX5.cell 2
       go_upto_region 4 with fail
       obtain ⟨w6, e6⟩ : ∃ w6, w6 = w5.setCell ⟨fb, 3, none⟩ (.bool true) := ⟨_, rfl⟩
       rw [← e6]
       have hfc6 : Blk w6 fb 158 #[.int .i64 (most : Int), .int .i64 pre, .slice a2 (l'.length - n) c2, .bool true] := by rw [e6];exact hfc5.set 3 _
       have hX6 : Blk w6 gX 72 #[.bool true, .int .i64 (xc : Nat), .int .i64 (xs : Nat)] := by rw [e6];exact hX5.other hgX _
       have hF6 : Blk w6 gF 34 #[.int .i64 (ty : Nat), .int .i64 (fl : Nat), .int .i64 (st : Nat), S da, .int .i64 (pad : Nat), .slice va sets.length vc, .int .i64 (code : Nat), .int .i64 (last : Nat), .int .i64 (inc : Nat), .int .i64 (dep : Nat), .int .i64 (wt : Nat), .bool sole] := by rw [e6];exact hF5.other (fun e => by have h1 : w5.heap[gF]? = _ := hF5;have h2 : w5.heap[fb]? = _ := hfc5;rw [e, h2] at h1;simp at h1) _
       have hp6 : One w6 pb 88 (Ptr fb) := by rw [e6];exact hp5.other hne _
       have hu6 : But (fun k => k = fb) wr w6 := by rw [e6];exact But.setCell (S := fun k => k = fb) hu5 (p := ⟨fb, 3, none⟩) (.inl rfl) _
       have ho6 : w6.ownsRow W1.heap.size 31 2 (.slice va sets.length vc) sets.length (scells sets) := by rw [e6];exact ownsRow_setCell_below ho5 (Nat.lt_of_lt_of_le hfb hN) _
       have hD6 : By N w6 (.slice a2 (l'.length - n) c2) (l'.drop n) := by rw [e6];exact hD5.feed hfc5 3 _
       have hz6 : W1.heap.size ≤ w6.heap.size := Nat.le_trans hsz hu6.size
       have hj6 := hJ q wr w6 hj hu6
       obtain ⟨fn, tm, as1, bo1, hy, hR⟩ := hY q ⟨ty, fl, st, da, pad, sets, code, last, inc, dep, wt, sole⟩ (.slice va sets.length vc) ⟨true, xc, xs⟩ w6 hj6 (by omega) hp6 hz6 ho6
       simp only [itemV] at hy
       clear e6 hfc5 hX5 hF5 hp5 hu5 ho5 hD5 p0 i2 i3 j0 j2
       have p0 : w6.cell? ⟨pb, 0, none⟩ = some (Ptr fb) := hp6.cell
       have m0 : w6.cell? ⟨gF, 0, none⟩ = some (.int .i64 (ty : Nat)) := hF6.cell 0
       have m1 : w6.cell? ⟨gF, 1, none⟩ = some (.int .i64 (fl : Nat)) := hF6.cell 1
       have m2 : w6.cell? ⟨gF, 2, none⟩ = some (.int .i64 (st : Nat)) := hF6.cell 2
       have m3 : w6.cell? ⟨gF, 3, none⟩ = some (S da) := hF6.cell 3
       have m4 : w6.cell? ⟨gF, 4, none⟩ = some (.int .i64 (pad : Nat)) := hF6.cell 4
       have m5 : w6.cell? ⟨gF, 5, none⟩ = some (.slice va sets.length vc) := hF6.cell 5
       have m6 : w6.cell? ⟨gF, 6, none⟩ = some (.int .i64 (code : Nat)) := hF6.cell 6
       have m7 : w6.cell? ⟨gF, 7, none⟩ = some (.int .i64 (last : Nat)) := hF6.cell 7
       have m8 : w6.cell? ⟨gF, 8, none⟩ = some (.int .i64 (inc : Nat)) := hF6.cell 8
       have m9 : w6.cell? ⟨gF, 9, none⟩ = some (.int .i64 (dep : Nat)) := hF6.cell 9
       have m10 : w6.cell? ⟨gF, 10, none⟩ = some (.int .i64 (wt : Nat)) := hF6.cell 10
       have m11 : w6.cell? ⟨gF, 11, none⟩ = some (.bool sole) := hF6.cell 11
       have j0 : w6.cell? ⟨gX, 0, none⟩ = some (.bool true) := hX6.cell 0
       have j1 : w6.cell? ⟨gX, 1, none⟩ = some (.int .i64 (xc : Int)) := hX6.cell 1
       have j2 : w6.cell? ⟨gX, 2, none⟩ = some (.int .i64 (xs : Int)) := hX6.cell 2
       refine (wpIn_wide (n := 2)).1 ?_
       gi_wp2
       refine hR.mono ?_
       rintro e w7 ⟨rfl, hJ7, hB7, hp7, hz7⟩
       have hf7 : Blk w7 fb 158 #[.int .i64 (most : Int), .int .i64 pre, .slice a2 (l'.length - n) c2, .bool true] := hfc6.below hB7 hfb
       have hD7 := hD6.below hB7
       clear hy hR hfc6 hX6 hF6 hp6 hu6 ho6 hD6 hj6 p0 m0 m1 m2 m3 m4 m5 m6 m7 m8 m9 m10 m11 j0 j1 j2
       have p0 : w7.cell? ⟨pb, 0, none⟩ = some (Ptr fb) := hp7.cell
       have i3 : w7.cell? ⟨fb, 3, none⟩ = some (.bool true) := hf7.cell 3
       gi_wp2
       go_wp2
       refine bodyPost_ret (results_none rfl _ _ _) rfl ?_
       have e : itemsF most (k + 1) l' = ([(⟨ty, fl, st, da, pad, sets, code, last, inc, dep, wt, sole⟩, ⟨true, xc, xs⟩)], l'.drop n, true) := by
        unfold itemsF
        rw [ER.out]
        simp [HX0.out]
       rw [HRK.out, e]
       exact ⟨⟨_, rfl⟩, hJ7, hp7, _, hf7, by have e2 : (l'.drop n).length = l'.length - n := List.length_drop;exact hD7⟩
      ·have t1 : ((n : Int) == 0) = false := i_ne (b := 0) hn0
       clear hn0
       go_upto_region 2 with fail
       refine' (fun (key : (_ : Prop)) => ?main3) ?kp3
       case main3 =>
        go_region_with (fail)
        all_goals exact key
       obtain ⟨w5, e5⟩ : ∃ w5, w5 = (wc.setCell ⟨fb, 2, none⟩ (.slice a2 (l'.length - n) c2)).drew := ⟨_, rfl⟩
       rw [← e5]
       have hfc5 : Blk w5 fb 158 #[.int .i64 (most : Int), .int .i64 pre, .slice a2 (l'.length - n) c2, .bool false] := by rw [e5];exact hfc.set 2 _
       have hX5 : Blk w5 gX 72 #[.bool true, .int .i64 (xc : Nat), .int .i64 (xs : Nat)] := by rw [e5];exact hX.other hgX _
       have hF5 : Blk w5 gF 34 #[.int .i64 (ty : Nat), .int .i64 (fl : Nat), .int .i64 (st : Nat), S da, .int .i64 (pad : Nat), .slice va sets.length vc, .int .i64 (code : Nat), .int .i64 (last : Nat), .int .i64 (inc : Nat), .int .i64 (dep : Nat), .int .i64 (wt : Nat), .bool sole] := by rw [e5];exact hF.other (fun e => by have h1 : wc.heap[gF]? = _ := hF;have h2 : wc.heap[fb]? = _ := hfc;rw [e, h2] at h1;simp at h1) _
       have hp5 : One w5 pb 88 (Ptr fb) := by rw [e5];exact hpc.other hne _
       have hu5 : But (fun k => k = fb) wr w5 := by rw [e5];exact ((But.setCell (S := fun k => k = fb) (But.of_below hw) (p := ⟨fb, 2, none⟩) (.inl rfl) _)).drew
       have ho5 : w5.ownsRow W1.heap.size 31 2 (.slice va sets.length vc) sets.length (scells sets) := by rw [e5];exact ownsRow_setCell_below (own_base ho hsz) (Nat.lt_of_lt_of_le hfb hN) _
       have hD5 : By N w5 (.slice a2 (l'.length - n) c2) (l'.drop n) := by rw [e5];exact hD2.feed hfc 2 _
       have hz5 : W1.heap.size ≤ w5.heap.size := Nat.le_trans hsz hu5.size
       clear e5 hfc hX hF hpc hw ho p0 i0 i1 i2 i3 j0 j1 j2 hs2
       have p0 : w5.cell? ⟨pb, 0, none⟩ = some (Ptr fb) := hp5.cell
       have i2 : w5.cell? ⟨fb, 3, none⟩ = some (.bool false) := hfc5.cell 3
       have i3 : w5.frozen? ⟨fb, 3, none⟩ = false := hfc5.free 3
       have j0 : w5.cell? ⟨gX, 0, none⟩ = some (.bool true) := hX5.cell 0
       have j2 : w5.cell? ⟨gX, 2, none⟩ = some (.int .i64 (xs : Int)) := hX5.cell 2
       go_upto_region 4 with fail
       obtain ⟨w6, e6⟩ : ∃ w6, w6 = w5.setCell ⟨fb, 3, none⟩ (.bool true) := ⟨_, rfl⟩
       rw [← e6]
       have hfc6 : Blk w6 fb 158 #[.int .i64 (most : Int), .int .i64 pre, .slice a2 (l'.length - n) c2, .bool true] := by rw [e6];exact hfc5.set 3 _
       have hX6 : Blk w6 gX 72 #[.bool true, .int .i64 (xc : Nat), .int .i64 (xs : Nat)] := by rw [e6];exact hX5.other hgX _
       have hF6 : Blk w6 gF 34 #[.int .i64 (ty : Nat), .int .i64 (fl : Nat), .int .i64 (st : Nat), S da, .int .i64 (pad : Nat), .slice va sets.length vc, .int .i64 (code : Nat), .int .i64 (last : Nat), .int .i64 (inc : Nat), .int .i64 (dep : Nat), .int .i64 (wt : Nat), .bool sole] := by rw [e6];exact hF5.other (fun e => by have h1 : w5.heap[gF]? = _ := hF5;have h2 : w5.heap[fb]? = _ := hfc5;rw [e, h2] at h1;simp at h1) _
       have hp6 : One w6 pb 88 (Ptr fb) := by rw [e6];exact hp5.other hne _
       have hu6 : But (fun k => k = fb) wr w6 := by rw [e6];exact But.setCell (S := fun k => k = fb) hu5 (p := ⟨fb, 3, none⟩) (.inl rfl) _
       have ho6 : w6.ownsRow W1.heap.size 31 2 (.slice va sets.length vc) sets.length (scells sets) := by rw [e6];exact ownsRow_setCell_below ho5 (Nat.lt_of_lt_of_le hfb hN) _
       have hD6 : By N w6 (.slice a2 (l'.length - n) c2) (l'.drop n) := by rw [e6];exact hD5.feed hfc5 3 _
       have hz6 : W1.heap.size ≤ w6.heap.size := Nat.le_trans hsz hu6.size
       have hj6 := hJ q wr w6 hj hu6
       obtain ⟨fn, tm, as1, bo1, hy, hR⟩ := hY q ⟨ty, fl, st, da, pad, sets, code, last, inc, dep, wt, sole⟩ (.slice va sets.length vc) ⟨true, xc, xs⟩ w6 hj6 (by omega) hp6 hz6 ho6
       simp only [itemV] at hy
       clear e6 hfc5 hX5 hF5 hp5 hu5 ho5 hD5 p0 i2 i3 j0 j2
       have p0 : w6.cell? ⟨pb, 0, none⟩ = some (Ptr fb) := hp6.cell
       have m0 : w6.cell? ⟨gF, 0, none⟩ = some (.int .i64 (ty : Nat)) := hF6.cell 0
       have m1 : w6.cell? ⟨gF, 1, none⟩ = some (.int .i64 (fl : Nat)) := hF6.cell 1
       have m2 : w6.cell? ⟨gF, 2, none⟩ = some (.int .i64 (st : Nat)) := hF6.cell 2
       have m3 : w6.cell? ⟨gF, 3, none⟩ = some (S da) := hF6.cell 3
       have m4 : w6.cell? ⟨gF, 4, none⟩ = some (.int .i64 (pad : Nat)) := hF6.cell 4
       have m5 : w6.cell? ⟨gF, 5, none⟩ = some (.slice va sets.length vc) := hF6.cell 5
       have m6 : w6.cell? ⟨gF, 6, none⟩ = some (.int .i64 (code : Nat)) := hF6.cell 6
       have m7 : w6.cell? ⟨gF, 7, none⟩ = some (.int .i64 (last : Nat)) := hF6.cell 7
       have m8 : w6.cell? ⟨gF, 8, none⟩ = some (.int .i64 (inc : Nat)) := hF6.cell 8
       have m9 : w6.cell? ⟨gF, 9, none⟩ = some (.int .i64 (dep : Nat)) := hF6.cell 9
       have m10 : w6.cell? ⟨gF, 10, none⟩ = some (.int .i64 (wt : Nat)) := hF6.cell 10
       have m11 : w6.cell? ⟨gF, 11, none⟩ = some (.bool sole) := hF6.cell 11
       have j0 : w6.cell? ⟨gX, 0, none⟩ = some (.bool true) := hX6.cell 0
       have j1 : w6.cell? ⟨gX, 1, none⟩ = some (.int .i64 (xc : Int)) := hX6.cell 1
       have j2 : w6.cell? ⟨gX, 2, none⟩ = some (.int .i64 (xs : Int)) := hX6.cell 2
       refine (wpIn_wide (n := 2)).1 ?_
       gi_wp2
       refine hR.mono ?_
       rintro e w7 ⟨rfl, hJ7, hB7, hp7, hz7⟩
       have hf7 : Blk w7 fb 158 #[.int .i64 (most : Int), .int .i64 pre, .slice a2 (l'.length - n) c2, .bool true] := hfc6.below hB7 hfb
       have hD7 := hD6.below hB7
       clear hy hR hfc6 hX6 hF6 hp6 hu6 ho6 hD6 hj6 p0 m0 m1 m2 m3 m4 m5 m6 m7 m8 m9 m10 m11 j0 j1 j2
       have p0 : w7.cell? ⟨pb, 0, none⟩ = some (Ptr fb) := hp7.cell
       have i3 : w7.cell? ⟨fb, 3, none⟩ = some (.bool true) := hf7.cell 3
       gi_wp2
       go_wp2
       refine bodyPost_ret (results_none rfl _ _ _) rfl ?_
       have e : itemsF most (k + 1) l' = ([(⟨ty, fl, st, da, pad, sets, code, last, inc, dep, wt, sole⟩, ⟨true, xc, xs⟩)], l'.drop n, true) := by
        unfold itemsF
        rw [ER.out]
        simp [HX0.out]
       rw [HRK.out, e]
       exact ⟨⟨_, rfl⟩, hJ7, hp7, _, hf7, by have e2 : (l'.drop n).length = l'.length - n := List.length_drop;exact hD7⟩
     ·have t2 : ((xs : Int) == 0) = false := i_ne (b := 0) hx0
      have hn0 : n ≠ 0 := fun e => (hps e).elim (fun h => by cases h) hx0
      have t1 : ((n : Int) == 0) = false := i_ne (b := 0) hn0
      have HX0 := Lib.hid hx0
      have HN0 := Lib.hid hn0
      clear hps hHE hx0 hn0
      go_upto_region 2 with fail
      refine' (fun (key : (_ : Prop)) => ?main4) ?kp4
      case main4 =>
       go_region_with (fail)
       all_goals exact key
      obtain ⟨w5, e5⟩ : ∃ w5, w5 = (wc.setCell ⟨fb, 2, none⟩ (.slice a2 (l'.length - n) c2)).drew := ⟨_, rfl⟩
      rw [← e5]
      have hfc5 : Blk w5 fb 158 #[.int .i64 (most : Int), .int .i64 pre, .slice a2 (l'.length - n) c2, .bool false] := by rw [e5];exact hfc.set 2 _
      have hX5 : Blk w5 gX 72 #[.bool true, .int .i64 (xc : Nat), .int .i64 (xs : Nat)] := by rw [e5];exact hX.other hgX _
      have hF5 : Blk w5 gF 34 #[.int .i64 (ty : Nat), .int .i64 (fl : Nat), .int .i64 (st : Nat), S da, .int .i64 (pad : Nat), .slice va sets.length vc, .int .i64 (code : Nat), .int .i64 (last : Nat), .int .i64 (inc : Nat), .int .i64 (dep : Nat), .int .i64 (wt : Nat), .bool sole] := by rw [e5];exact hF.other (fun e => by have h1 : wc.heap[gF]? = _ := hF;have h2 : wc.heap[fb]? = _ := hfc;rw [e, h2] at h1;simp at h1) _
      have hp5 : One w5 pb 88 (Ptr fb) := by rw [e5];exact hpc.other hne _
      have hu5 : But (fun k => k = fb) wr w5 := by rw [e5];exact ((But.setCell (S := fun k => k = fb) (But.of_below hw) (p := ⟨fb, 2, none⟩) (.inl rfl) _)).drew
      have ho5 : w5.ownsRow W1.heap.size 31 2 (.slice va sets.length vc) sets.length (scells sets) := by rw [e5];exact ownsRow_setCell_below (own_base ho hsz) (Nat.lt_of_lt_of_le hfb hN) _
      have hD5 : By N w5 (.slice a2 (l'.length - n) c2) (l'.drop n) := by rw [e5];exact hD2.feed hfc 2 _
      have hz5 : W1.heap.size ≤ w5.heap.size := Nat.le_trans hsz hu5.size
      clear e5 hfc hX hF hpc hw ho p0 i0 i1 i2 i3 j0 j1 j2 hs2
      have p0 : w5.cell? ⟨pb, 0, none⟩ = some (Ptr fb) := hp5.cell
      have i2 : w5.cell? ⟨fb, 3, none⟩ = some (.bool false) := hfc5.cell 3
      have i3 : w5.frozen? ⟨fb, 3, none⟩ = false := hfc5.free 3
      have j0 : w5.cell? ⟨gX, 0, none⟩ = some (.bool true) := hX5.cell 0
      have j2 : w5.cell? ⟨gX, 2, none⟩ = some (.int .i64 (xs : Int)) := hX5.cell 2
      go_upto_region 4 with fail
      obtain ⟨w6, e6⟩ : ∃ w6, w6 = w5.setCell ⟨fb, 3, none⟩ (.bool false) := ⟨_, rfl⟩
      rw [← e6]
      have hfc6 : Blk w6 fb 158 #[.int .i64 (most : Int), .int .i64 pre, .slice a2 (l'.length - n) c2, .bool false] := by rw [e6];exact hfc5.set 3 _
      have hX6 : Blk w6 gX 72 #[.bool true, .int .i64 (xc : Nat), .int .i64 (xs : Nat)] := by rw [e6];exact hX5.other hgX _
      have hF6 : Blk w6 gF 34 #[.int .i64 (ty : Nat), .int .i64 (fl : Nat), .int .i64 (st : Nat), S da, .int .i64 (pad : Nat), .slice va sets.length vc, .int .i64 (code : Nat), .int .i64 (last : Nat), .int .i64 (inc : Nat), .int .i64 (dep : Nat), .int .i64 (wt : Nat), .bool sole] := by rw [e6];exact hF5.other (fun e => by have h1 : w5.heap[gF]? = _ := hF5;have h2 : w5.heap[fb]? = _ := hfc5;rw [e, h2] at h1;simp at h1) _
      have hp6 : One w6 pb 88 (Ptr fb) := by rw [e6];exact hp5.other hne _
      have hu6 : But (fun k => k = fb) wr w6 := by rw [e6];exact But.setCell (S := fun k => k = fb) hu5 (p := ⟨fb, 3, none⟩) (.inl rfl) _
      have ho6 : w6.ownsRow W1.heap.size 31 2 (.slice va sets.length vc) sets.length (scells sets) := by rw [e6];exact ownsRow_setCell_below ho5 (Nat.lt_of_lt_of_le hfb hN) _
      have hD6 : By N w6 (.slice a2 (l'.length - n) c2) (l'.drop n) := by rw [e6];exact hD5.feed hfc5 3 _
      have hz6 : W1.heap.size ≤ w6.heap.size := Nat.le_trans hsz hu6.size
      have hj6 := hJ q wr w6 hj hu6
      obtain ⟨fn, tm, as1, bo1, hy, hR⟩ := hY q ⟨ty, fl, st, da, pad, sets, code, last, inc, dep, wt, sole⟩ (.slice va sets.length vc) ⟨true, xc, xs⟩ w6 hj6 (by omega) hp6 hz6 ho6
      simp only [itemV] at hy
      clear e6 hfc5 hX5 hF5 hp5 hu5 ho5 hD5 p0 i2 i3 j0 j2
      have p0 : w6.cell? ⟨pb, 0, none⟩ = some (Ptr fb) := hp6.cell
      have m0 : w6.cell? ⟨gF, 0, none⟩ = some (.int .i64 (ty : Nat)) := hF6.cell 0
      have m1 : w6.cell? ⟨gF, 1, none⟩ = some (.int .i64 (fl : Nat)) := hF6.cell 1
      have m2 : w6.cell? ⟨gF, 2, none⟩ = some (.int .i64 (st : Nat)) := hF6.cell 2
      have m3 : w6.cell? ⟨gF, 3, none⟩ = some (S da) := hF6.cell 3
      have m4 : w6.cell? ⟨gF, 4, none⟩ = some (.int .i64 (pad : Nat)) := hF6.cell 4
      have m5 : w6.cell? ⟨gF, 5, none⟩ = some (.slice va sets.length vc) := hF6.cell 5
      have m6 : w6.cell? ⟨gF, 6, none⟩ = some (.int .i64 (code : Nat)) := hF6.cell 6
      have m7 : w6.cell? ⟨gF, 7, none⟩ = some (.int .i64 (last : Nat)) := hF6.cell 7
      have m8 : w6.cell? ⟨gF, 8, none⟩ = some (.int .i64 (inc : Nat)) := hF6.cell 8
      have m9 : w6.cell? ⟨gF, 9, none⟩ = some (.int .i64 (dep : Nat)) := hF6.cell 9
      have m10 : w6.cell? ⟨gF, 10, none⟩ = some (.int .i64 (wt : Nat)) := hF6.cell 10
      have m11 : w6.cell? ⟨gF, 11, none⟩ = some (.bool sole) := hF6.cell 11
      have j0 : w6.cell? ⟨gX, 0, none⟩ = some (.bool true) := hX6.cell 0
      have j1 : w6.cell? ⟨gX, 1, none⟩ = some (.int .i64 (xc : Int)) := hX6.cell 1
      have j2 : w6.cell? ⟨gX, 2, none⟩ = some (.int .i64 (xs : Int)) := hX6.cell 2
      refine (wpIn_wide (n := 2)).1 ?_
      gi_wp2
      refine hR.mono ?_
      rintro e w7 ⟨rfl, hJ7, hB7, hp7, hz7⟩
      have hf7 : Blk w7 fb 158 #[.int .i64 (most : Int), .int .i64 pre, .slice a2 (l'.length - n) c2, .bool false] := hfc6.below hB7 hfb
      have hD7 := hD6.below hB7
      clear hy hR hfc6 hX6 hF6 hp6 hu6 ho6 hD6 hj6 p0 m0 m1 m2 m3 m4 m5 m6 m7 m8 m9 m10 m11 j0 j1 j2
      have p0 : w7.cell? ⟨pb, 0, none⟩ = some (Ptr fb) := hp7.cell
      have i3 : w7.cell? ⟨fb, 3, none⟩ = some (.bool false) := hf7.cell 3
      gi_wp2
      go_wp2
      go_roundw
      case rel =>
       have e : itemsF most (k + 1) l' = ((⟨ty, fl, st, da, pad, sets, code, last, inc, dep, wt, sole⟩, ⟨true, xc, xs⟩) :: (itemsF most k (l'.drop n)).1, (itemsF most k (l'.drop n)).2) := by
        rw [itemsF]
        rw [ER.out]
        simp [HX0.out, HN0.out]
       have hn1 := HN0.out
       refine ⟨k, q ++ [(⟨ty, fl, st, da, pad, sets, code, last, inc, dep, wt, sole⟩, ⟨true, xc, xs⟩)], .slice a2 (l'.length - n) c2, l'.drop n, ?_, ?_, hf7, hD7, hp7, hJ7, Nat.le_trans hz6 hz7, by rw [List.length_append, List.length_drop, List.length_singleton];omega⟩
       ·rw [List.length_drop];omega
       ·rw [HRK.out, e];simp
      case measure =>
       have hn1 := HN0.out
       rw [leftIn_eq hf7, leftIn_eq hfr];omega
end Go.Proofs.YtkeeofhjdffhbaaGreatDoor
