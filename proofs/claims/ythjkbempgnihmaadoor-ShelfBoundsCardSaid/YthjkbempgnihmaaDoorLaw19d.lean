
/- The walk of a law of layer 19: what is handed in and what is answered may be written over. Printed by owngen.py. -/
import Derived.Test.YthjkbempgnihmaaDoorLaw19c
import Derived.Test.YthjkbempgnihmaaDoorShq9
import Derived.Test.YthjkbempgnihmaaDoorRf19
namespace Go.Dr
open Go.RowKit
set_option linter.unusedSimpArgs false in
set_option linter.unusedVariables false in
set_option linter.unnecessarySimpa false in
/-- A cell of a row of one's own is written: the row is still one's own. -/
theorem own_poke {w : World} {base : Nat} {e : TypeId} {size : Nat} {v : Value} {n : Nat} {xs : List Value} (h : w.ownsRow base e size v n xs) (hn : 0 < n) :
    ∃ g cap, v = .slice (some ⟨g, 0, none⟩) n cap ∧ base ≤ g ∧ g < w.heap.size ∧ n ≤ cap ∧ ∀ j, j < n * size → (∃ u, w.cell? ⟨g, j, none⟩ = some u) ∧ w.frozen? ⟨g, j, none⟩ = false ∧ ∀ u, ∃ xs', (w.setCell ⟨g, j, none⟩ u).ownsRow base e size v n xs' := by
  rcases h.2 with ⟨_, h0⟩ | ⟨g, cap, cur, rfl, hb, hg, h1, h2, h3, h4⟩
  · omega
  · have hle := Nat.mul_le_mul_right size h1
    refine ⟨g, cap, rfl, hb, (Array.getElem?_eq_some_iff.1 hg).1, h1, fun j hj => ⟨⟨cur[j]'(by omega), ?_⟩, ?_, fun u => ⟨((cur.setIfInBounds j u).toList.take (n * size)), ?_⟩⟩⟩
    · rw [cell_of_row w g j cur e (0, 0) hg]
      exact Array.getElem?_eq_getElem (by omega)
    · simp [World.frozen?, hg]
    · refine ⟨by simp; omega, .inr ⟨g, cap, cur.setIfInBounds j u, rfl, hb, ?_, h1, h2, by simpa using h3, rfl⟩⟩
      simp only [World.setCell, Array.getElem?_modify, if_true, hg]
      simp
/-- Only one row has turned. -/
def Row1 (v : Value) (k : Nat) : Prop := v.ownBlock = some k
end Go.Dr
namespace Go.Proofs.YthjkbempgnihmaaDoor
open Go.RowKit Go.Dr

set_option linter.unusedSimpArgs false in
set_option linter.unusedVariables false in
set_option linter.unnecessarySimpa false in
theorem row1_ne {w : World} {base : Nat} {e t : TypeId} {size : Nat} {v : Value} {n : Nat} {xs : List Value} {cs : Array Value} {b : Nat} (h : w.ownsRow base e size v n xs) (hb : Blk w b t cs) (ht : t ≠ e) : ¬ Row1 v b := fun hk => by
  obtain ⟨cu, hcu⟩ := own_ty h hk
  unfold Blk at hb
  rw [hb] at hcu
  simp only [Option.some.injEq, Obj.cells.injEq] at hcu
  exact ht hcu.2.1
set_option linter.unusedSimpArgs false in
set_option linter.unusedVariables false in
set_option linter.unnecessarySimpa false in
theorem row1_own {w w' : World} {base base' : Nat} {e e' : TypeId} {size size' : Nat} {v v' : Value} {n n' : Nat} {xs xs' : List Value} (h : w.ownsRow base e size v n xs) (h' : w.ownsRow base' e' size' v' n' xs') (he : e' ≠ e) (hb : But (Row1 v) w w') : w'.ownsRow base' e' size' v' n' xs' :=
  own_block h' fun g cur hg _ => hb.block g (Array.getElem?_eq_some_iff.1 hg).1 fun hk => by
    obtain ⟨cu, hcu⟩ := own_ty h hk
    rw [hg] at hcu
    simp only [Option.some.injEq, Obj.cells.injEq] at hcu
    exact he hcu.2.1
set_option linter.unusedSimpArgs false in
set_option linter.unusedVariables false in
set_option linter.unnecessarySimpa false in
/-- A row that is none of the shelf's is written. -/
theorem Sh.row1 {fb rb : Nat} {w w' : World} {s R m : Nat} {most last : Int} {l : List Nd} (h : Sh fb rb w s R m most last l) {v : Value} {base : Nat} {e : TypeId} {size n : Nat} {xs : List Value} (hv : w.ownsRow base e size v n xs) (he1 : e ≠ 70) (he2 : e ≠ 67) (hlow : ∀ g, Row1 v g → g < rb) (hb : But (Row1 v) w w') : Sh fb rb w' s R m most last l :=
  h.keep (fun k hk => hb.block k (h.foot_lt hk) fun hr => by
    obtain ⟨cu, hcu⟩ := own_ty hv hr
    exact h.off hcu he1 he2 hk) fun n hn => (h.rows n hn).block fun g cur hg hr => hb.block g (by rcases hg with hg | hg <;> exact (Array.getElem?_eq_some_iff.1 hg).1) fun hk => by have := hlow g hk; omega
set_option linter.unusedSimpArgs false in
set_option linter.unusedVariables false in
set_option linter.unnecessarySimpa false in
/-- The one entry of a row. -/
theorem ev_at {B : Nat} {w : World} {a : Option Addr} {c : Nat} {ev : Ev} (h : Rd B w 7 (.slice a 1 c) 1 (ecells [ev])) :
    ∃ b off, a = some ⟨b, off, none⟩ ∧ b < B ∧ w.cell? ⟨b, off, none⟩ = some (S ev.x.key) ∧ w.cell? ⟨b, off + 1, none⟩ = some ev.vp ∧ w.cell? ⟨b, off + 2, none⟩ = some (.int .i64 ev.x.st) ∧ w.cell? ⟨b, off + 3, none⟩ = some ev.vf ∧ w.cell? ⟨b, off + 4, none⟩ = some (S ev.x.body) ∧ w.cell? ⟨b, off + 5, none⟩ = some (.int .i64 ev.x.asked) ∧ w.cell? ⟨b, off + 6, none⟩ = some (.int .i64 ev.x.came) := by
  obtain ⟨a', cap', h1, h2, h3, h4, h5, h6⟩ := h
  simp only [Value.slice.injEq, true_and] at h1
  obtain ⟨rfl, rfl⟩ := h1
  have hget : ∀ (j : Nat) (u : Value), ([S ev.x.key, ev.vp, .int .i64 ev.x.st, ev.vf, S ev.x.body, .int .i64 ev.x.asked, .int .i64 ev.x.came] : List Value)[j]? = some u → (ecells [ev])[j]? = some u := fun j u hu => by
    simpa [ecells, Ev.cells] using hu
  obtain ⟨b, off, rfl, hb, c0⟩ := h6 0 _ (hget 0 _ rfl)
  have hc : ∀ (j : Nat) (u : Value), ([S ev.x.key, ev.vp, .int .i64 ev.x.st, ev.vf, S ev.x.body, .int .i64 ev.x.asked, .int .i64 ev.x.came] : List Value)[j]? = some u → w.cell? ⟨b, off + j, none⟩ = some u := fun j u hu => by
    obtain ⟨b1, off1, e1, _, c1⟩ := h6 j u (hget j u hu)
    simp only [Option.some.injEq, Addr.mk.injEq, and_true] at e1
    obtain ⟨rfl, rfl⟩ := e1
    exact c1
  exact ⟨b, off, rfl, hb, c0, hc 1 _ rfl, hc 2 _ rfl, hc 3 _ rfl, hc 4 _ rfl, hc 5 _ rfl, hc 6 _ rfl⟩

set_option linter.unusedSimpArgs false in
set_option linter.unusedVariables false in
set_option linter.unnecessarySimpa false in
theorem Sh.nil_any {fb rb rb' : Nat} {w : World} {s R m : Nat} {most last : Int} (h : Sh fb rb w s R m most last []) : Sh fb rb' w s R m most last [] := ⟨h.blk, h.ring, h.map, by simp, h.base, h.room, h.most1⟩

set_option linter.unusedSimpArgs false in
set_option linter.unusedVariables false in
set_option linter.unnecessarySimpa false in
theorem takes_one {key : Bytes} {list : List F} {n : Nd} {lp : List F} (hk : n.x.key = key) (hl : n.x.lp = lp) : bestOf key list [n] = if matchP lp list = true then some n else none := by
  simp [bestOf, better, takes, hk, hl]


set_option linter.unusedSimpArgs false in
set_option linter.unusedVariables false in
set_option linter.unnecessarySimpa false in
set_option maxRecDepth 100000 in
set_option maxHeartbeats 16000000 in
theorem own_law (q : En) (lp lf : List F) (vl : Value) (list : List F) (w : World) (hp : Fs w.heap.size w q.vp lp) (hf : Fs w.heap.size w q.vf lf) (hl : Fs w.heap.size w vl list) (hok : (⟨0, 0, q, vl, lp, lf, list⟩ : Dv).Ok) :
    Calls Tryd.prog 4 #[q.val, vl] w fun e w' => e = .returned (.bool true) ∧ Below w.heap.size w w' := by
  obtain ⟨ap, kp, hvp, -⟩ := hp.form
  obtain ⟨af, kf, hvf, -⟩ := hf.form
  obtain ⟨al, kl, rfl, -⟩ := hl.form
  obtain ⟨key, vp, st, vf, body, asked, came⟩ := q
  simp only [En.val] at *
  subst hvp hvf
  obtain ⟨w0, ew⟩ : ∃ w0 : World, w0 = w.alloc (.cells #[S key, .slice ap lp.length kp, .int .i64 st, .slice af lf.length kf, S body, .int .i64 asked, .int .i64 came] 28) := ⟨_, rfl⟩
  have hb0 : Below w.heap.size w w0 := by rw [ew]; exact (Below.refl _ _).alloc (Nat.le_refl _) _
  have hE0 : Blk w0 w.heap.size 28 #[S key, .slice ap lp.length kp, .int .i64 st, .slice af lf.length kf, S body, .int .i64 asked, .int .i64 came] := by rw [ew]; exact Blk.new _ _ _
  obtain ⟨B, eB⟩ : ∃ B, B = w.heap.size := ⟨_, rfl⟩
  rw [← eB] at hb0 hE0 hp hf hl
  have HB := Lib.hid eB
  have hB0 : B < w0.heap.size := hE0.lt
  go_enter Tryd.func4, Tryd.ntmps4
  go_upto_region 1 with fail
  rw [← ew, ← eB]
  clear ew eB
  go_wp2_with fail
  refine (awake19_any w0).mono ?_
  rintro e w1 ⟨rfl, hb1⟩
  have hE1 := hE0.on hb1
  have hw1 : Below B w w1 := hb0.trans (hb1.mono (Nat.le_of_lt hB0))
  have hB1 : B < w1.heap.size := hE1.lt
  (have x0 : w1.cell? ⟨B, 0, none⟩ = some (S key) := hE1.cell 0; have x1 : w1.cell? ⟨B, 1, none⟩ = some (.slice ap lp.length kp) := hE1.cell 1; have x2 : w1.cell? ⟨B, 2, none⟩ = some (.int .i64 st) := hE1.cell 2; have x3 : w1.cell? ⟨B, 3, none⟩ = some (.slice af lf.length kf) := hE1.cell 3; have x4 : w1.cell? ⟨B, 4, none⟩ = some (S body) := hE1.cell 4; have x5 : w1.cell? ⟨B, 5, none⟩ = some (.int .i64 asked) := hE1.cell 5; have x6 : w1.cell? ⟨B, 6, none⟩ = some (.int .i64 came) := hE1.cell 6)
  go_wp2_with fail
  have hD := one_Ds w1 w1 ⟨0, 0, ⟨key, .slice ap lp.length kp, st, .slice af lf.length kf, body, asked, came⟩, .slice al list.length kl, lp, lf, list⟩ (Nat.le_refl _) ((hp.below hw1).mono (Nat.le_of_lt hB1)) ((hf.below hw1).mono (Nat.le_of_lt hB1)) ((hl.below hw1).mono (Nat.le_of_lt hB1))
  refine (few19_any _ _ _ hD (by intro d hd; rw [List.mem_singleton.1 hd]; exact hok)).mono ?_
  rintro e w2 ⟨b, rfl, hsm, hb2⟩
  have hE2 := (hE1.alloc (.cells #[.int .i64 0, .int .i64 0, S key, .slice ap lp.length kp, .int .i64 st, .slice af lf.length kf, S body, .int .i64 asked, .int .i64 came, .slice al list.length kl] 30)).on hb2
  have hw2 : Below B w w2 := (hw1.alloc (Nat.le_of_lt hB1) (.cells #[.int .i64 0, .int .i64 0, S key, .slice ap lp.length kp, .int .i64 st, .slice af lf.length kf, S body, .int .i64 asked, .int .i64 came, .slice al list.length kl] 30)).trans (hb2.mono (by simp; omega))
  have hB2 : B < w2.heap.size := hE2.lt
  clear hD hE1 hw1 hb1 hb2 x0 x1 x2 x3 x4 x5 x6 hE0 hb0 hok hB0 hB1
  cases b with
  | false =>
    go_wp2
    go_ret
    exact ⟨rfl, by rw [← HB.out]; exact hw2⟩
  | true =>
  have hS := hsm rfl _ (by simp : (⟨0, 0, ⟨key, .slice ap lp.length kp, st, .slice af lf.length kf, body, asked, came⟩, .slice al list.length kl, lp, lf, list⟩ : Dv) ∈ [(⟨0, 0, ⟨key, .slice ap lp.length kp, st, .slice af lf.length kf, body, asked, came⟩, .slice al list.length kl, lp, lf, list⟩ : Dv)].take 60)
  have q1 : key.length ≤ 65536 := hS.key
  have q2 : body.length ≤ 2097152 := hS.body
  have q3 : fsum lp ≤ 551600 := hS.sum
  have q4 : fsum lf ≤ 131072 := hS.lf
  have q5 : fsum list ≤ 131072 := hS.ll
  have q6 := fsum_length lp
  have q7 := fsum_length lf
  clear hS hsm
  have HN := New_any 1048576 (by omega) (by omega) w2
  go_wp2_with fail
  refine HN.mono ?_
  rintro e w3 ⟨rfl, hb3, n1, n2, n3⟩
  have hs3 : Sh w2.heap.size 0 w3 (w2.heap.size + 2) w2.heap.size (w2.heap.size + 1) 1048576 0 [] := sh_new n1 n2 n3 (Nat.le_refl _) (by omega) (by omega)
  obtain ⟨R, eR⟩ : ∃ R, R = w2.heap.size := ⟨_, rfl⟩
  rw [← eR] at hs3 hB2 ⊢
  have hE3 := hE2.on hb3
  have hw3 : Below B w w3 := hw2.trans (hb3.mono (by omega))
  have hR3 : R < w3.heap.size := hs3.rlt
  clear HN n1 n2 n3 hb3 hE2 hw2 eR
  (have x0 : w3.cell? ⟨B, 0, none⟩ = some (S key) := hE3.cell 0; have x1 : w3.cell? ⟨B, 1, none⟩ = some (.slice ap lp.length kp) := hE3.cell 1; have x2 : w3.cell? ⟨B, 2, none⟩ = some (.int .i64 st) := hE3.cell 2; have x3 : w3.cell? ⟨B, 3, none⟩ = some (.slice af lf.length kf) := hE3.cell 3; have x4 : w3.cell? ⟨B, 4, none⟩ = some (S body) := hE3.cell 4; have x5 : w3.cell? ⟨B, 5, none⟩ = some (.int .i64 asked) := hE3.cell 5; have x6 : w3.cell? ⟨B, 6, none⟩ = some (.int .i64 came) := hE3.cell 6)
  obtain ⟨w4, e4⟩ : ∃ w4 : World, w4 = w3.alloc (.cells #[S key, .slice ap lp.length kp, .int .i64 st, .slice af lf.length kf, S body, .int .i64 asked, .int .i64 came] 28) := ⟨_, rfl⟩
  obtain ⟨O, eO⟩ : ∃ O, O = w3.heap.size := ⟨_, rfl⟩
  have hO4 : Blk w4 O 28 #[S key, .slice ap lp.length kp, .int .i64 st, .slice af lf.length kf, S body, .int .i64 asked, .int .i64 came] := by rw [e4, eO]; exact Blk.new _ _ _
  have hb34 : Below w3.heap.size w3 w4 := by rw [e4]; exact (Below.refl _ _).alloc (Nat.le_refl _) _
  have hE4 := hE3.on hb34
  have H4 := Lib.hid e4
  have HO := Lib.hid eO
  have hO3 : O = w3.heap.size := eO
  clear e4 eO
  go_upto_region 9 with fail
  rw [← HO.out, ← H4.out]
  have hwO : O < w4.heap.size := hO4.lt
  rw [← hO3] at hb34 hR3
  have hw4 : Below B w w4 := hw3.trans (hb34.mono (by omega))
  have hf4 := (hf.below hw4).mono (show B ≤ w4.heap.size by omega)
  have hs4 : Sh R 0 w4 (R + 2) R (R + 1) 1048576 0 [] := hs3.below (hO3 ▸ hb34)
  have hft : ∀ k, Foot (R + 2) R (R + 1) ([] : List Nd) k → k < O := fun k hk => hO3 ▸ hs3.foot_lt hk
  clear hO3
  clear H4 HO x0 x1 x2 x3 x4 x5 x6 hs3 hE3 hw3 hb34
  have x3 : ∀ o, (w4.alloc o).cell? ⟨B, 3, none⟩ = some (.slice af lf.length kf) := fun o => (hE4.alloc o).cell 3
  go_upto_region 10 with (at_builtin; refine wpList_appRd rfl _ _ 26 rfl w4.heap.size 45 (.agg #[.string ByteArray.empty, .string ByteArray.empty, .bool false]) 3 40 Tryd.underlying26 (by kernel_rfl) rfl (by decide) _ _ _ rfl (by exact own_lit _ w4.heap.size rfl w4.heap.size (Nat.le_refl _) _ _) _ _ _ _ rfl (by exact hf4.below ((Below.refl _ _).alloc (Nat.le_refl _) _)) (fcells_one _) (by unfold maxLen; omega) (by omega) (by simp) ?_; intro a5 c5 w5 hown5 hb5; simp only [Nat.zero_add, List.nil_append] at hown5; have hO5 := (hO4.alloc (.cells #[] 45)).below hb5 hwO; have k3 := hO5.cell 3; have f3 := hO5.free 3)
  obtain ⟨w5s, e5⟩ : ∃ w5s : World, w5s = w5.setCell ⟨O, 3, none⟩ (.slice a5 lf.length c5) := ⟨_, rfl⟩
  have hz45 : w4.heap.size < w5.heap.size := by have := hb5.size; simp at this; omega
  have hz5 : w5s.heap.size = w5.heap.size := by rw [e5]; simp [World.setCell]
  have hO5s : Blk w5s O 28 #[S key, .slice ap lp.length kp, .int .i64 st, .slice a5 lf.length c5, S body, .int .i64 asked, .int .i64 came] := by
    rw [e5]
    have := hO5.set 3 (.slice a5 lf.length c5)
    simpa using this
  have hE5 : Blk w5s B 28 #[S key, .slice ap lp.length kp, .int .i64 st, .slice af lf.length kf, S body, .int .i64 asked, .int .i64 came] := by rw [e5]; exact ((hE4.alloc (.cells #[] 45)).below hb5 (by omega)).other (p := ⟨O, 3, none⟩) (by show B ≠ O; omega) (.slice a5 lf.length c5)
  have hb45 : Below O w4 w5s := by rw [e5]; exact (((Below.refl O w4).alloc (by omega) (.cells #[] 45)).trans (hb5.mono (by omega))).setCell (p := ⟨O, 3, none⟩) (Nat.le_refl _) _
  have hF5 : w5s.ownsRow w4.heap.size 45 3 (.slice a5 lf.length c5) lf.length (fcells lf) := by rw [e5]; exact ownsRow_setCell_below hown5 hwO _
  have hw5 : Below B w w5s := hw4.trans (hb45.mono (by omega))
  rw [← e5]
  clear e5 hown5 hb5 hO5 k3 f3 x3 hO4 hE4
  have hB4z : w4.heap.size ≤ w5s.heap.size := by omega
  have hp5 := (hp.below hw5).mono (show B ≤ w5s.heap.size by omega)
  have hO5z : O < w5s.heap.size := hO5s.lt
  clear hz5 hz45
  have x1 : ∀ o, (w5s.alloc o).cell? ⟨B, 1, none⟩ = some (.slice ap lp.length kp) := fun o => (hE5.alloc o).cell 1
  go_upto_region 11 with (at_builtin; refine wpList_appRd rfl _ _ 25 rfl w5s.heap.size 47 (.agg #[.string ByteArray.empty, .string ByteArray.empty, .bool false]) 3 40 Tryd.underlying25 (by kernel_rfl) rfl (by decide) _ _ _ rfl (by exact own_lit _ w5s.heap.size rfl w5s.heap.size (Nat.le_refl _) _ _) _ _ _ _ rfl (by exact hp5.below ((Below.refl _ _).alloc (Nat.le_refl _) _)) (fcells_one _) (by unfold maxLen; omega) (by omega) (by simp) ?_; intro a6 c6 w6 hown6 hb6; simp only [Nat.zero_add, List.nil_append] at hown6; have hO6 := (hO5s.alloc (.cells #[] 47)).below hb6 hO5z; have k1 := hO6.cell 1; have f1 := hO6.free 1)
  obtain ⟨w6s, e6⟩ : ∃ w6s : World, w6s = w6.setCell ⟨O, 1, none⟩ (.slice a6 lp.length c6) := ⟨_, rfl⟩
  have hz56 : w5s.heap.size < w6.heap.size := by have := hb6.size; simp at this; omega
  have hz6 : w6s.heap.size = w6.heap.size := by rw [e6]; simp [World.setCell]
  have hO6s : Blk w6s O 28 #[S key, .slice a6 lp.length c6, .int .i64 st, .slice a5 lf.length c5, S body, .int .i64 asked, .int .i64 came] := by
    rw [e6]
    have := hO6.set 1 (.slice a6 lp.length c6)
    simpa using this
  have hE6 : Blk w6s B 28 #[S key, .slice ap lp.length kp, .int .i64 st, .slice af lf.length kf, S body, .int .i64 asked, .int .i64 came] := by rw [e6]; exact ((hE5.alloc (.cells #[] 47)).below hb6 (by omega)).other (p := ⟨O, 1, none⟩) (by show B ≠ O; omega) (.slice a6 lp.length c6)
  have hb56 : Below O w5s w6s := by rw [e6]; exact (((Below.refl O w5s).alloc (by omega) (.cells #[] 47)).trans (hb6.mono (by omega))).setCell (p := ⟨O, 1, none⟩) (Nat.le_refl _) _
  have hF6 : w6s.ownsRow w4.heap.size 45 3 (.slice a5 lf.length c5) lf.length (fcells lf) := by rw [e6]; exact ownsRow_setCell_below (own_below hF5 (((Below.refl _ w5s).alloc (Nat.le_refl _) (.cells #[] 47)).trans hb6)) hwO _
  have hP6 : w6s.ownsRow w5s.heap.size 47 3 (.slice a6 lp.length c6) lp.length (fcells lp) := by rw [e6]; exact ownsRow_setCell_below hown6 hO5z _
  have hw6 : Below B w w6s := hw5.trans (hb56.mono (by omega))
  have hb46 : Below O w4 w6s := hb45.trans hb56
  have hs6 : Sh R w6s.heap.size w6s (R + 2) R (R + 1) 1048576 0 [] := (hs4.keep (fun k hk => hb46.block k (hft k hk)) (by simp)).nil_any
  rw [← e6]
  clear e6 hown6 hb6 hO6 k1 f1 x1 hO5s hE5 hb45 hb56 hb46 hF5 hs4 hw5 hw4 hf4 hp5
  have hB5z : w5s.heap.size ≤ w6s.heap.size := by omega
  clear hz6 hz56
  (have x0 : w6s.cell? ⟨O, 0, none⟩ = some (S key) := hO6s.cell 0; have x1 : w6s.cell? ⟨O, 1, none⟩ = some (.slice a6 lp.length c6) := hO6s.cell 1; have x2 : w6s.cell? ⟨O, 2, none⟩ = some (.int .i64 st) := hO6s.cell 2; have x3 : w6s.cell? ⟨O, 3, none⟩ = some (.slice a5 lf.length c5) := hO6s.cell 3; have x4 : w6s.cell? ⟨O, 4, none⟩ = some (S body) := hO6s.cell 4; have x5 : w6s.cell? ⟨O, 5, none⟩ = some (.int .i64 asked) := hO6s.cell 5; have x6 : w6s.cell? ⟨O, 6, none⟩ = some (.int .i64 came) := hO6s.cell 6)
  have hoffF : ∀ k, Row1 (.slice a5 lf.length c5) k → ¬ Foot (R + 2) R (R + 1) ([] : List Nd) k := fun k hk => by obtain ⟨cu, hcu⟩ := own_ty hF6 hk; exact hs6.off hcu (by decide) (by decide)
  have hoffP : ∀ k, Row1 (.slice a6 lp.length c6) k → ¬ Foot (R + 2) R (R + 1) ([] : List Nd) k := fun k hk => by obtain ⟨cu, hcu⟩ := own_ty hP6 hk; exact hs6.off hcu (by decide) (by decide)
  have hpst : ∀ w', But (Foot (R + 2) R (R + 1) []) w6s w' → Fs w'.heap.size w' (.slice a6 lp.length c6) lp := fun w' hb => Fs.own (own_block hP6 fun g cur hg _ => hb.block g (Array.getElem?_eq_some_iff.1 hg).1 (hs6.off hg (by decide) (by decide)))
  have hfst : ∀ w', But (Foot (R + 2) R (R + 1) []) w6s w' → Fs w'.heap.size w' (.slice a5 lf.length c5) lf := fun w' hb => Fs.own (own_block hF6 fun g cur hg _ => hb.block g (Array.getElem?_eq_some_iff.1 hg).1 (hs6.off hg (by decide) (by decide)))
  have hBf : ¬ Foot (R + 2) R (R + 1) ([] : List Nd) B := fun hk => by have := hs6.base B hk; omega
  have hOf : ¬ Foot (R + 2) R (R + 1) ([] : List Nd) O := fun hk => by have := hft O hk; omega
  by_cases hc : 64 + key.length + body.length + fsum lf + fsum lp ≤ 1048576
  · have hPut := Put_any R w6s.heap.size (R + 2) R (R + 1) 1048576 0 [] ⟨key, .slice a6 lp.length c6, st, .slice a5 lf.length c5, body, asked, came⟩ lp lf w6s hs6 (by omega) (Nat.le_refl _) hpst hfst (by show key.length ≤ _; omega) (by show body.length ≤ _; omega) (by omega) (by omega) (by simp) (by omega) 1048576 rfl hc
    go_wp2_with fail
    refine hPut.mono ?_
    rintro e w7 ⟨rfl, nd, hnx, hnb, hs7, hb7⟩
    have hs7 : Sh R w6s.heap.size w7 (R + 2) R (R + 1) 1048576 1 [nd] := hs7
    have hE7 := hE6.but hb7 hBf
    have hO7 := hO6s.but hb7 hOf
    have hF7 : w7.ownsRow w4.heap.size 45 3 (.slice a5 lf.length c5) lf.length (fcells lf) := own_block hF6 fun g cur hg _ => hb7.block g (Array.getElem?_eq_some_iff.1 hg).1 (hs6.off hg (by decide) (by decide))
    have hP7 : w7.ownsRow w5s.heap.size 47 3 (.slice a6 lp.length c6) lp.length (fcells lp) := own_block hP6 fun g cur hg _ => hb7.block g (Array.getElem?_eq_some_iff.1 hg).1 (hs6.off hg (by decide) (by decide))
    have hw7 : Below B w w7 := hw6.trans (hb7.below (fun k hk => by have := hs6.base k hk; omega) (by omega))
    have hlowF : ∀ g, Row1 (.slice a5 lf.length c5) g → g < w6s.heap.size := fun g hg => (hF6.lt g hg).2
    have hlowP : ∀ g, Row1 (.slice a6 lp.length c6) g → g < w6s.heap.size := fun g hg => (hP6.lt g hg).2
    have hgeF : ∀ g, Row1 (.slice a5 lf.length c5) g → B ≤ g := fun g hg => by have := (hF6.lt g hg).1; omega
    have hgeP : ∀ g, Row1 (.slice a6 lp.length c6) g → B ≤ g := fun g hg => by have := (hP6.lt g hg).1; omega
    have hz7 : w6s.heap.size ≤ w7.heap.size := hb7.size
    have hB7 : B < w7.heap.size := hE7.lt
    have hOF := row1_ne hF7 hO7 (by decide)
    have hEF := row1_ne hF7 hE7 (by decide)
    clear x0 x1 x2 x3 x4 x5 x6 hE6 hO6s hF6 hP6 hw6 hs6 hPut hb7 hpst hfst hoffF hoffP hBf hOf hft hc
    go_wp2
    go_loopw [10] (fun i wr => ∃ k : Nat, i = .int .i64 k ∧ k ≤ lf.length ∧ (∃ xs, wr.ownsRow w4.heap.size 45 3 (.slice a5 lf.length c5) lf.length xs) ∧ But (Row1 (.slice a5 lf.length c5)) w7 wr) (fun i _ => lf.length - (intOf i).toNat)
    case atStart => exact ⟨0, rfl, Nat.zero_le _, ⟨_, hF7⟩, But.refl _ _⟩
    case round =>
      obtain ⟨k, rfl, hk, ⟨xs, hox⟩, hbr⟩ := hrel
      have x3 : wr.cell? ⟨O, 3, none⟩ = some (.slice a5 lf.length c5) := (hO7.but hbr hOF).cell 3
      by_cases hlt : k < lf.length
      · obtain ⟨g, cap, hv, hbg, hgl, hnc, hpk⟩ := own_poke hox (by omega)
        simp only [Value.slice.injEq, true_and] at hv
        obtain ⟨rfl, rfl⟩ := hv
        obtain ⟨⟨u, hu⟩, hfz, hset⟩ := hpk (k * 3 + 1) (by omega)
        obtain ⟨xs', hox'⟩ := hset (S [115, 112, 111, 105, 108, 116])
        clear hpk hset hox
        go_wp2
        go_roundw
        case rel => exact ⟨k + 1, by go_num, by omega, ⟨xs', hox'⟩, hbr.setCell (p := ⟨g, k * 3 + 1, none⟩) (.inl rfl) _⟩
        case measure => simp [intOf]; omega
      · have e : k = lf.length := by omega
        subst e
        obtain ⟨w8, rfl⟩ : ∃ w8 : World, w8 = wr := ⟨_, rfl⟩
        have hE8 := hE7.but hbr hEF
        have hO8 := hO7.but hbr hOF
        have hP8 := row1_own hF7 hP7 (by decide) hbr
        have hs8 := hs7.row1 hF7 (by decide) (by decide) hlowF hbr
        have hw8 : Below B w w8 := hw7.trans (hbr.below hgeF (Nat.le_of_lt hB7))
        have hB8 : B < w8.heap.size := hE8.lt
        have hOP := row1_ne hP8 hO8 (by decide)
        have hEP := row1_ne hP8 hE8 (by decide)
        clear hE7 hO7 hF7 hP7 hs7 hw7 hbr hox xs hlt hk hB7
        go_wp2
        go_loopw [11] (fun i wr => ∃ k : Nat, i = .int .i64 k ∧ k ≤ lp.length ∧ (∃ xs, wr.ownsRow w5s.heap.size 47 3 (.slice a6 lp.length c6) lp.length xs) ∧ But (Row1 (.slice a6 lp.length c6)) w8 wr) (fun i _ => lp.length - (intOf i).toNat)
        case atStart => exact ⟨0, rfl, Nat.zero_le _, ⟨_, hP8⟩, But.refl _ _⟩
        case round =>
          obtain ⟨k, rfl, hk, ⟨xs, hox⟩, hbr⟩ := hrel
          have x1 : wr.cell? ⟨O, 1, none⟩ = some (.slice a6 lp.length c6) := (hO8.but hbr hOP).cell 1
          by_cases hlt : k < lp.length
          · obtain ⟨g, cap, hv, hbg, hgl, hnc, hpk⟩ := own_poke hox (by omega)
            simp only [Value.slice.injEq, true_and] at hv
            obtain ⟨rfl, rfl⟩ := hv
            obtain ⟨⟨u, hu⟩, hfz, hset⟩ := hpk (k * 3 + 1) (by omega)
            obtain ⟨xs', hox'⟩ := hset (S [115, 112, 111, 105, 108, 116])
            clear hpk hset hox
            go_wp2
            go_roundw
            case rel => exact ⟨k + 1, by go_num, by omega, ⟨xs', hox'⟩, hbr.setCell (p := ⟨g, k * 3 + 1, none⟩) (.inl rfl) _⟩
            case measure => simp [intOf]; omega
          · have e : k = lp.length := by omega
            subst e
            obtain ⟨w9, rfl⟩ : ∃ w9 : World, w9 = wr := ⟨_, rfl⟩
            have hE9 := hE8.but hbr hEP
            have hs9 := hs8.row1 hP8 (by decide) (by decide) hlowP hbr
            have hw9 : Below B w w9 := hw8.trans (hbr.below hgeP (Nat.le_of_lt hB8))
            have hB9 : B < w9.heap.size := hE9.lt
            clear hE8 hO8 hP8 hs8 hw8 hbr hox xs hlt hk hB8 hOP hEP hOF hEF hlowF hlowP hgeF hgeP x3
            have hid1 : nd.x.id = 1 := by rw [hnx]; rfl
            have hAt := At_some R w6s.heap.size (R + 2) R (R + 1) 1048576 1 [] [] nd w9 hs9 (by rw [hid1]; decide)
            rw [hid1] at hAt
            go_wp2_with fail
            refine hAt.mono ?_
            rintro e w10 ⟨v, rfl, hret, hb10⟩
            have hret : RetE ⟨1, key, lp, st, lf, body, asked, came⟩ w9.heap.size v w10 := by rw [hnx] at hret; exact hret
            obtain ⟨vpx, vfx, rfl, o1, o2⟩ := hret
            obtain ⟨apx, kpx, rfl, -⟩ := (Fs.own o1).form
            obtain ⟨afx, kfx, rfl, -⟩ := (Fs.own o2).form
            simp only at o1 o2 ⊢
            obtain ⟨w11, e11⟩ : ∃ w11 : World, w11 = w10.alloc (.cells #[S key, .slice apx lp.length kpx, .int .i64 st, .slice afx lf.length kfx, S body, .int .i64 asked, .int .i64 came] 28) := ⟨_, rfl⟩
            obtain ⟨X, eX⟩ : ∃ X, X = w10.heap.size := ⟨_, rfl⟩
            have hX11 : Blk w11 X 28 #[S key, .slice apx lp.length kpx, .int .i64 st, .slice afx lf.length kfx, S body, .int .i64 asked, .int .i64 came] := by rw [e11, eX]; exact Blk.new _ _ _
            have hb11 : Below w9.heap.size w9 w11 := by rw [e11]; exact hb10.alloc hb10.size _
            have oP : w11.ownsRow w9.heap.size 47 3 (.slice apx lp.length kpx) lp.length (fcells lp) := by rw [e11]; exact o1.alloc _
            have oF : w11.ownsRow w9.heap.size 45 3 (.slice afx lf.length kfx) lf.length (fcells lf) := by rw [e11]; exact o2.alloc _
            have hE11 := hE9.below hb11 hB9
            have hw11 : Below B w w11 := hw9.trans (hb11.mono (Nat.le_of_lt hB9))
            have hB11 : B < w11.heap.size := hE11.lt
            have H11 := Lib.hid e11
            have HX := Lib.hid eX
            have hSx := refSame_eq ⟨key, .slice apx lp.length kpx, st, .slice afx lf.length kfx, body, asked, came⟩ (.slice ap lp.length kp) (.slice af lf.length kf) lp lf w11 (Fs.own oP) (Fs.own oF) ((hp.below hw11).mono (Nat.le_of_lt hB11)) ((hf.below hw11).mono (Nat.le_of_lt hB11))
            clear e11 eX o1 o2 hb10 x1
            go_upto_region 23 with fail
            rw [← HX.out, ← H11.out]
            clear HX H11
            (have x0 : w11.cell? ⟨X, 0, none⟩ = some (S key) := hX11.cell 0; have x1 : w11.cell? ⟨X, 1, none⟩ = some (.slice apx lp.length kpx) := hX11.cell 1; have x2 : w11.cell? ⟨X, 2, none⟩ = some (.int .i64 st) := hX11.cell 2; have x3 : w11.cell? ⟨X, 3, none⟩ = some (.slice afx lf.length kfx) := hX11.cell 3; have x4 : w11.cell? ⟨X, 4, none⟩ = some (S body) := hX11.cell 4; have x5 : w11.cell? ⟨X, 5, none⟩ = some (.int .i64 asked) := hX11.cell 5; have x6 : w11.cell? ⟨X, 6, none⟩ = some (.int .i64 came) := hX11.cell 6)
            (have y0 : w11.cell? ⟨B, 0, none⟩ = some (S key) := hE11.cell 0; have y1 : w11.cell? ⟨B, 1, none⟩ = some (.slice ap lp.length kp) := hE11.cell 1; have y2 : w11.cell? ⟨B, 2, none⟩ = some (.int .i64 st) := hE11.cell 2; have y3 : w11.cell? ⟨B, 3, none⟩ = some (.slice af lf.length kf) := hE11.cell 3; have y4 : w11.cell? ⟨B, 4, none⟩ = some (S body) := hE11.cell 4; have y5 : w11.cell? ⟨B, 5, none⟩ = some (.int .i64 asked) := hE11.cell 5; have y6 : w11.cell? ⟨B, 6, none⟩ = some (.int .i64 came) := hE11.cell 6)
            go_wp2_with fail
            refine hSx.mono ?_
            rintro e w12 ⟨rfl, hb12⟩
            have hX12 := hX11.on hb12
            have oF12 := own_below oF hb12
            have hz11 := hb11.size
            have hb912 : Below w9.heap.size w9 w12 := hb11.trans (hb12.mono hz11)
            have hXF := row1_ne oF12 hX12 (by decide)
            clear x0 x1 x2 x3 x4 x5 x6 y0 y1 y2 y3 y4 y5 y6 hX11 oP oF hE11 hw11 hSx hb11 hb12 hB11
            go_wp2
            go_loopw [14] (fun i wr => ∃ k : Nat, i = .int .i64 k ∧ k ≤ lf.length ∧ (∃ xs, wr.ownsRow w9.heap.size 45 3 (.slice afx lf.length kfx) lf.length xs) ∧ But (Row1 (.slice afx lf.length kfx)) w12 wr) (fun i _ => lf.length - (intOf i).toNat)
            case atStart => exact ⟨0, rfl, Nat.zero_le _, ⟨_, oF12⟩, But.refl _ _⟩
            case round =>
              obtain ⟨k, rfl, hk, ⟨xs, hox⟩, hbr⟩ := hrel
              have x3 : wr.cell? ⟨X, 3, none⟩ = some (.slice afx lf.length kfx) := (hX12.but hbr hXF).cell 3
              by_cases hlt : k < lf.length
              · obtain ⟨g, cap, hv, hbg, hgl, hnc, hpk⟩ := own_poke hox (by omega)
                simp only [Value.slice.injEq, true_and] at hv
                obtain ⟨rfl, rfl⟩ := hv
                obtain ⟨⟨u, hu⟩, hfz, hset⟩ := hpk (k * 3) (by omega)
                obtain ⟨xs', hox'⟩ := hset (S [115, 112, 111, 105, 108, 116])
                clear hpk hset hox
                go_wp2
                go_roundw
                case rel => exact ⟨k + 1, by go_num, by omega, ⟨xs', hox'⟩, hbr.setCell (p := ⟨g, k * 3, none⟩) (.inl rfl) _⟩
                case measure => simp [intOf]; omega
              · have e : k = lf.length := by omega
                subst e
                obtain ⟨w13, rfl⟩ : ∃ w13 : World, w13 = wr := ⟨_, rfl⟩
                have hb913 : Below w9.heap.size w9 w13 := hb912.trans (hbr.below (fun g hg => (oF12.lt g hg).1) hb912.size)
                have hE13 := hE9.below hb913 hB9
                have hs13 := hs9.below hb913
                have hw13 : Below B w w13 := hw9.trans (hb913.mono (Nat.le_of_lt hB9))
                have hB13 : B < w13.heap.size := hE13.lt
                have hFind := Find_any R w6s.heap.size (R + 2) R (R + 1) 1048576 1 [nd] key (.slice al list.length kl) list w13 hs13 ((hl.below hw13).mono (Nat.le_of_lt hB13)) (by omega)
                have hbo := takes_one (key := key) (list := list) (n := nd) (lp := lp) (by rw [hnx]; rfl) (by rw [hnx]; rfl)
                have y0 : w13.cell? ⟨B, 0, none⟩ = some (S key) := hE13.cell 0
                have hpn : ∀ p ∈ lp, p.n.length ≤ 549755813888 := fun p hm => by have := fsum_mem hm; omega
                clear hE9 hs9 hw9 hB9 hX12 oF12 hb912 hXF hox xs hlt hk hbr hb913 hAt hz11
                go_wp2_with fail
                refine hFind.mono ?_
                rintro e w14 (⟨hno, rfl, hb14⟩ | ⟨a', n', b', v', hab, hyes, rfl, hret2, hs14, hb14⟩)
                · have hmt : matchP lp list = false := by
                    rw [hbo] at hno
                    cases h : matchP lp list with
                    | false => rfl
                    | true => rw [h] at hno; simp at hno
                  obtain ⟨w15, e15⟩ : ∃ w15 : World, w15 = w14.alloc (.cells Ez 28) := ⟨_, rfl⟩
                  have hb15 : Below w13.heap.size w13 w15 := by rw [e15]; exact hb14.alloc hb14.size _
                  have hE15 := hE13.below hb15 hB13
                  have hs15 := hs13.below hb15
                  have hw15 : Below B w w15 := hw13.trans (hb15.mono (Nat.le_of_lt hB13))
                  have hB15 : B < w15.heap.size := hE15.lt
                  have hM := refMatch_any lp list (.slice ap lp.length kp) (.slice al list.length kl) w15 ((hp.below hw15).mono (Nat.le_of_lt hB15)) ((hl.below hw15).mono (Nat.le_of_lt hB15)) (by omega) hpn
                  rw [hmt] at hM
                  have H15 := Lib.hid e15
                  have HY := Lib.hid (show w14.heap.size = w14.heap.size from rfl)
                  clear e15 hb14 hb15 hE13 hs13 hw13 hB13 y0 hno hbo hFind hmt x3
                  go_upto_region 30 with fail
                  rw [← H15.out]
                  (have y0 : w15.cell? ⟨B, 0, none⟩ = some (S key) := hE15.cell 0; have y1 : w15.cell? ⟨B, 1, none⟩ = some (.slice ap lp.length kp) := hE15.cell 1; have y2 : w15.cell? ⟨B, 2, none⟩ = some (.int .i64 st) := hE15.cell 2; have y3 : w15.cell? ⟨B, 3, none⟩ = some (.slice af lf.length kf) := hE15.cell 3; have y4 : w15.cell? ⟨B, 4, none⟩ = some (S body) := hE15.cell 4; have y5 : w15.cell? ⟨B, 5, none⟩ = some (.int .i64 asked) := hE15.cell 5; have y6 : w15.cell? ⟨B, 6, none⟩ = some (.int .i64 came) := hE15.cell 6)
                  go_wp2_with fail
                  refine hM.mono ?_
                  rintro e w16 ⟨rfl, hb16⟩
                  have hE16 := hE15.on hb16
                  have hs16 := hs15.below hb16
                  have hw16 : Below B w w16 := hw15.trans (hb16.mono (Nat.le_of_lt hB15))
                  clear hM hb16 hE15 hs15 hw15 hB15
                  have hAll := ShAll_any R w6s.heap.size (R + 2) R (R + 1) 1048576 1 [nd] w16 hs16
                  clear y0 y1 y2 y3 y4 y5 y6
                  go_wp2_with fail
                  refine hAll.mono ?_
                  rintro e wa ⟨v, evs, rfl, ⟨hit, hrow, hlst⟩, hba⟩
                  obtain ⟨ev, rfl⟩ : ∃ ev, evs = [ev] := by
                    cases evs with
                    | nil => simp at hit
                    | cons e es =>
                      cases es with
                      | nil => exact ⟨e, rfl⟩
                      | cons _ _ => simp at hit
                  have hex : ev.x = ⟨1, key, lp, st, lf, body, asked, came⟩ := by
                    have : ev.x = nd.x := by simpa using hit
                    rw [this, hnx]
                    rfl
                  obtain ⟨vpe, vfe, xe⟩ := ev
                  simp only at hex
                  subst hex
                  obtain ⟨oe1, oe2⟩ := hlst _ (by simp : (⟨vpe, vfe, ⟨1, key, lp, st, lf, body, asked, came⟩⟩ : Ev) ∈ [(⟨vpe, vfe, ⟨1, key, lp, st, lf, body, asked, came⟩⟩ : Ev)])
                  have hrd := Rd.own hrow
                  obtain ⟨av, kv, rfl, -⟩ : ∃ a c, v = .slice a 1 c ∧ True := by
                    obtain ⟨a, c, hv, -⟩ := hrd
                    exact ⟨a, c, hv, trivial⟩
                  obtain ⟨gb, goo, rfl, hgb, r0, r1, r2, r3, r4, r5, r6⟩ := ev_at hrd
                  simp only at r0 r1 r2 r3 r4 r5 r6
                  have hEa := hE16.on hba
                  have hwa : Below B w wa := hw16.trans (hba.mono (Nat.le_of_lt hE16.lt))
                  have hBa : B < wa.heap.size := hEa.lt
                  have hSm := refSame_eq ⟨key, vpe, st, vfe, body, asked, came⟩ (.slice ap lp.length kp) (.slice af lf.length kf) lp lf wa.drew (show Fs wa.drew.heap.size wa.drew vpe lp from Fs.own oe1) (show Fs wa.drew.heap.size wa.drew vfe lf from Fs.own oe2) (show Fs wa.drew.heap.size wa.drew _ lp from (hp.below hwa).mono (Nat.le_of_lt hBa)) (show Fs wa.drew.heap.size wa.drew _ lf from (hf.below hwa).mono (Nat.le_of_lt hBa))
                  simp only [En.val] at hSm
                  (have y0 : wa.cell? ⟨B, 0, none⟩ = some (S key) := hEa.cell 0; have y1 : wa.cell? ⟨B, 1, none⟩ = some (.slice ap lp.length kp) := hEa.cell 1; have y2 : wa.cell? ⟨B, 2, none⟩ = some (.int .i64 st) := hEa.cell 2; have y3 : wa.cell? ⟨B, 3, none⟩ = some (.slice af lf.length kf) := hEa.cell 3; have y4 : wa.cell? ⟨B, 4, none⟩ = some (S body) := hEa.cell 4; have y5 : wa.cell? ⟨B, 5, none⟩ = some (.int .i64 asked) := hEa.cell 5; have y6 : wa.cell? ⟨B, 6, none⟩ = some (.int .i64 came) := hEa.cell 6)
                  clear hrow hrd hlst oe1 oe2 hit hAll hs16 hw16 hE16
                  go_wp2_with fail
                  go_region_held3 (fun wx => wx.cell? ⟨gb, goo, none⟩ = some (S key) ∧ wx.cell? ⟨gb, goo + 1, none⟩ = some (vpe) ∧ wx.cell? ⟨gb, goo + 2, none⟩ = some (.int .i64 st) ∧ wx.cell? ⟨gb, goo + 3, none⟩ = some (vfe) ∧ wx.cell? ⟨gb, goo + 4, none⟩ = some (S body) ∧ wx.cell? ⟨gb, goo + 5, none⟩ = some (.int .i64 asked) ∧ wx.cell? ⟨gb, goo + 6, none⟩ = some (.int .i64 came) ∧ wx.cell? ⟨B, 0, none⟩ = some (S key) ∧ wx.cell? ⟨B, 1, none⟩ = some (.slice ap lp.length kp) ∧ wx.cell? ⟨B, 2, none⟩ = some (.int .i64 st) ∧ wx.cell? ⟨B, 3, none⟩ = some (.slice af lf.length kf) ∧ wx.cell? ⟨B, 4, none⟩ = some (S body) ∧ wx.cell? ⟨B, 5, none⟩ = some (.int .i64 asked) ∧ wx.cell? ⟨B, 6, none⟩ = some (.int .i64 came))
                    (first | go_keep)
                    ((go_at_call 15; (with_reducible refine hSm.mono ?_); rintro e wz ⟨rfl, hbz⟩; replace hbz := Bl.undrew hbz; have hEz := hEa.on hbz; (have y0 : wz.cell? ⟨B, 0, none⟩ = some (S key) := hEz.cell 0; have y1 : wz.cell? ⟨B, 1, none⟩ = some (.slice ap lp.length kp) := hEz.cell 1; have y2 : wz.cell? ⟨B, 2, none⟩ = some (.int .i64 st) := hEz.cell 2; have y3 : wz.cell? ⟨B, 3, none⟩ = some (.slice af lf.length kf) := hEz.cell 3; have y4 : wz.cell? ⟨B, 4, none⟩ = some (S body) := hEz.cell 4; have y5 : wz.cell? ⟨B, 5, none⟩ = some (.int .i64 asked) := hEz.cell 5; have y6 : wz.cell? ⟨B, 6, none⟩ = some (.int .i64 came) := hEz.cell 6); replace r0 := ((bcell hbz).1 gb (goo) hgb).trans r0; replace r1 := ((bcell hbz).1 gb (goo + 1) hgb).trans r1; replace r2 := ((bcell hbz).1 gb (goo + 2) hgb).trans r2; replace r3 := ((bcell hbz).1 gb (goo + 3) hgb).trans r3; replace r4 := ((bcell hbz).1 gb (goo + 4) hgb).trans r4; replace r5 := ((bcell hbz).1 gb (goo + 5) hgb).trans r5; replace r6 := ((bcell hbz).1 gb (goo + 6) hgb).trans r6))
                  all_goals
                    go_wp2
                    go_ret
                    exact ⟨rfl, by rw [← HB.out]; exact hwa.trans (hbz.mono (Nat.le_of_lt hBa))⟩
                · have hn : n' = nd := by
                    have : n' ∈ [nd] := by rw [hab]; simp
                    simpa using this
                  subst hn
                  have hab2 : a' = [] ∧ b' = [] := by
                    cases a' with
                    | nil => simpa using hab
                    | cons x a => simp at hab
                  obtain ⟨rfl, rfl⟩ := hab2
                  have hs14 : Sh R w6s.heap.size w14 (R + 2) R (R + 1) 1048576 1 [n'] := hs14
                  have hmt : matchP lp list = true := by
                    rw [hbo] at hyes
                    cases h : matchP lp list with
                    | true => rfl
                    | false => rw [h] at hyes; simp at hyes
                  have hret2 : RetE ⟨1, key, lp, st, lf, body, asked, came⟩ w13.heap.size v' w14 := by rw [hnx] at hret2; exact hret2
                  rw [hid1]
                  obtain ⟨vpy, vfy, rfl, o3, o4⟩ := hret2
                  obtain ⟨apy, kpy, rfl, -⟩ := (Fs.own o3).form
                  obtain ⟨afy, kfy, rfl, -⟩ := (Fs.own o4).form
                  simp only at o3 o4 ⊢
                  have hBf : ¬ Foot (R + 2) R (R + 1) [n'] B := fun hk => by have := hs13.base B hk; omega
                  have hb14b : Below B w13 w14 := hb14.below (fun k hk => by have := hs13.base k hk; omega) (Nat.le_of_lt hB13)
                  obtain ⟨w15, e15⟩ : ∃ w15 : World, w15 = w14.alloc (.cells #[S key, .slice apy lp.length kpy, .int .i64 st, .slice afy lf.length kfy, S body, .int .i64 asked, .int .i64 came] 28) := ⟨_, rfl⟩
                  obtain ⟨Y, eY⟩ : ∃ Y, Y = w14.heap.size := ⟨_, rfl⟩
                  have hY15 : Blk w15 Y 28 #[S key, .slice apy lp.length kpy, .int .i64 st, .slice afy lf.length kfy, S body, .int .i64 asked, .int .i64 came] := by rw [e15, eY]; exact Blk.new _ _ _
                  have hb15 : Below w14.heap.size w14 w15 := by rw [e15]; exact (Below.refl _ _).alloc (Nat.le_refl _) _
                  have hE14 := hE13.but hb14 hBf
                  have hE15 := hE14.on hb15
                  have hs15 := hs14.below hb15
                  have hw14 : Below B w w14 := hw13.trans hb14b
                  have hw15 : Below B w w15 := hw14.trans (hb15.mono (Nat.le_of_lt hE14.lt))
                  have hB15 : B < w15.heap.size := hE15.lt
                  have oP := own_below o3 hb15
                  have oF := own_below o4 hb15
                  have hM := refMatch_any lp list (.slice ap lp.length kp) (.slice al list.length kl) w15 ((hp.below hw15).mono (Nat.le_of_lt hB15)) ((hl.below hw15).mono (Nat.le_of_lt hB15)) (by omega) hpn
                  rw [hmt] at hM
                  have H15 := Lib.hid e15
                  have HY := Lib.hid eY
                  clear e15 eY hb14 hb15 hb14b hE13 hE14 hs13 hs14 hw13 hw14 hB13 y0 hyes hbo hFind hmt x3 o3 o4 hBf hab
                  go_upto_region 30 with fail
                  rw [← HY.out, ← H15.out]
                  clear HY H15
                  (have y0 : w15.cell? ⟨B, 0, none⟩ = some (S key) := hE15.cell 0; have y1 : w15.cell? ⟨B, 1, none⟩ = some (.slice ap lp.length kp) := hE15.cell 1; have y2 : w15.cell? ⟨B, 2, none⟩ = some (.int .i64 st) := hE15.cell 2; have y3 : w15.cell? ⟨B, 3, none⟩ = some (.slice af lf.length kf) := hE15.cell 3; have y4 : w15.cell? ⟨B, 4, none⟩ = some (S body) := hE15.cell 4; have y5 : w15.cell? ⟨B, 5, none⟩ = some (.int .i64 asked) := hE15.cell 5; have y6 : w15.cell? ⟨B, 6, none⟩ = some (.int .i64 came) := hE15.cell 6)
                  go_wp2_with fail
                  refine hM.mono ?_
                  rintro e w16 ⟨rfl, hb16⟩
                  have hE16 := hE15.on hb16
                  have hY16 := hY15.on hb16
                  have hs16 := hs15.below hb16
                  have hw16 : Below B w w16 := hw15.trans (hb16.mono (Nat.le_of_lt hB15))
                  have hB16 : B < w16.heap.size := hE16.lt
                  have hSy := refSame_eq ⟨key, .slice apy lp.length kpy, st, .slice afy lf.length kfy, body, asked, came⟩ (.slice ap lp.length kp) (.slice af lf.length kf) lp lf w16 (Fs.own (own_below oP hb16)) (Fs.own (own_below oF hb16)) ((hp.below hw16).mono (Nat.le_of_lt hB16)) ((hf.below hw16).mono (Nat.le_of_lt hB16))
                  clear y0 y1 y2 y3 y4 y5 y6 hM hb16 hE15 hs15 hw15 hB15 hY15 oP oF
                  (have x0 : w16.cell? ⟨Y, 0, none⟩ = some (S key) := hY16.cell 0; have x1 : w16.cell? ⟨Y, 1, none⟩ = some (.slice apy lp.length kpy) := hY16.cell 1; have x2 : w16.cell? ⟨Y, 2, none⟩ = some (.int .i64 st) := hY16.cell 2; have x3 : w16.cell? ⟨Y, 3, none⟩ = some (.slice afy lf.length kfy) := hY16.cell 3; have x4 : w16.cell? ⟨Y, 4, none⟩ = some (S body) := hY16.cell 4; have x5 : w16.cell? ⟨Y, 5, none⟩ = some (.int .i64 asked) := hY16.cell 5; have x6 : w16.cell? ⟨Y, 6, none⟩ = some (.int .i64 came) := hY16.cell 6)
                  (have y0 : w16.cell? ⟨B, 0, none⟩ = some (S key) := hE16.cell 0; have y1 : w16.cell? ⟨B, 1, none⟩ = some (.slice ap lp.length kp) := hE16.cell 1; have y2 : w16.cell? ⟨B, 2, none⟩ = some (.int .i64 st) := hE16.cell 2; have y3 : w16.cell? ⟨B, 3, none⟩ = some (.slice af lf.length kf) := hE16.cell 3; have y4 : w16.cell? ⟨B, 4, none⟩ = some (S body) := hE16.cell 4; have y5 : w16.cell? ⟨B, 5, none⟩ = some (.int .i64 asked) := hE16.cell 5; have y6 : w16.cell? ⟨B, 6, none⟩ = some (.int .i64 came) := hE16.cell 6)
                  go_wp2_with fail
                  refine hSy.mono ?_
                  rintro e w17 ⟨rfl, hb17⟩
                  have hE17 := hE16.on hb17
                  have hs17 := hs16.below hb17
                  have hw17 : Below B w w17 := hw16.trans (hb17.mono (Nat.le_of_lt hB16))
                  clear x0 x1 x2 x3 x4 x5 x6 hSy hb17 hE16 hs16 hw16 hB16 hY16
                  have hAll := ShAll_any R w6s.heap.size (R + 2) R (R + 1) 1048576 1 [n'] w17 hs17
                  clear y0 y1 y2 y3 y4 y5 y6
                  go_wp2_with fail
                  refine hAll.mono ?_
                  rintro e wa ⟨v, evs, rfl, ⟨hit, hrow, hlst⟩, hba⟩
                  obtain ⟨ev, rfl⟩ : ∃ ev, evs = [ev] := by
                    cases evs with
                    | nil => simp at hit
                    | cons e es =>
                      cases es with
                      | nil => exact ⟨e, rfl⟩
                      | cons _ _ => simp at hit
                  have hex : ev.x = ⟨1, key, lp, st, lf, body, asked, came⟩ := by
                    have : ev.x = n'.x := by simpa using hit
                    rw [this, hnx]
                    rfl
                  obtain ⟨vpe, vfe, xe⟩ := ev
                  simp only at hex
                  subst hex
                  obtain ⟨oe1, oe2⟩ := hlst _ (by simp : (⟨vpe, vfe, ⟨1, key, lp, st, lf, body, asked, came⟩⟩ : Ev) ∈ [(⟨vpe, vfe, ⟨1, key, lp, st, lf, body, asked, came⟩⟩ : Ev)])
                  have hrd := Rd.own hrow
                  obtain ⟨av, kv, rfl, -⟩ : ∃ a c, v = .slice a 1 c ∧ True := by
                    obtain ⟨a, c, hv, -⟩ := hrd
                    exact ⟨a, c, hv, trivial⟩
                  obtain ⟨gb, goo, rfl, hgb, r0, r1, r2, r3, r4, r5, r6⟩ := ev_at hrd
                  simp only at r0 r1 r2 r3 r4 r5 r6
                  have hEa := hE17.on hba
                  have hwa : Below B w wa := hw17.trans (hba.mono (Nat.le_of_lt hE17.lt))
                  have hBa : B < wa.heap.size := hEa.lt
                  have hSm := refSame_eq ⟨key, vpe, st, vfe, body, asked, came⟩ (.slice ap lp.length kp) (.slice af lf.length kf) lp lf wa.drew (show Fs wa.drew.heap.size wa.drew vpe lp from Fs.own oe1) (show Fs wa.drew.heap.size wa.drew vfe lf from Fs.own oe2) (show Fs wa.drew.heap.size wa.drew _ lp from (hp.below hwa).mono (Nat.le_of_lt hBa)) (show Fs wa.drew.heap.size wa.drew _ lf from (hf.below hwa).mono (Nat.le_of_lt hBa))
                  simp only [En.val] at hSm
                  (have y0 : wa.cell? ⟨B, 0, none⟩ = some (S key) := hEa.cell 0; have y1 : wa.cell? ⟨B, 1, none⟩ = some (.slice ap lp.length kp) := hEa.cell 1; have y2 : wa.cell? ⟨B, 2, none⟩ = some (.int .i64 st) := hEa.cell 2; have y3 : wa.cell? ⟨B, 3, none⟩ = some (.slice af lf.length kf) := hEa.cell 3; have y4 : wa.cell? ⟨B, 4, none⟩ = some (S body) := hEa.cell 4; have y5 : wa.cell? ⟨B, 5, none⟩ = some (.int .i64 asked) := hEa.cell 5; have y6 : wa.cell? ⟨B, 6, none⟩ = some (.int .i64 came) := hEa.cell 6)
                  clear hrow hrd hlst oe1 oe2 hit hAll hs17 hw17 hE17
                  go_wp2_with fail
                  go_region_held3 (fun wx => wx.cell? ⟨gb, goo, none⟩ = some (S key) ∧ wx.cell? ⟨gb, goo + 1, none⟩ = some (vpe) ∧ wx.cell? ⟨gb, goo + 2, none⟩ = some (.int .i64 st) ∧ wx.cell? ⟨gb, goo + 3, none⟩ = some (vfe) ∧ wx.cell? ⟨gb, goo + 4, none⟩ = some (S body) ∧ wx.cell? ⟨gb, goo + 5, none⟩ = some (.int .i64 asked) ∧ wx.cell? ⟨gb, goo + 6, none⟩ = some (.int .i64 came) ∧ wx.cell? ⟨B, 0, none⟩ = some (S key) ∧ wx.cell? ⟨B, 1, none⟩ = some (.slice ap lp.length kp) ∧ wx.cell? ⟨B, 2, none⟩ = some (.int .i64 st) ∧ wx.cell? ⟨B, 3, none⟩ = some (.slice af lf.length kf) ∧ wx.cell? ⟨B, 4, none⟩ = some (S body) ∧ wx.cell? ⟨B, 5, none⟩ = some (.int .i64 asked) ∧ wx.cell? ⟨B, 6, none⟩ = some (.int .i64 came))
                    (first | go_keep)
                    ((go_at_call 15; (with_reducible refine hSm.mono ?_); rintro e wz ⟨rfl, hbz⟩; replace hbz := Bl.undrew hbz; have hEz := hEa.on hbz; (have y0 : wz.cell? ⟨B, 0, none⟩ = some (S key) := hEz.cell 0; have y1 : wz.cell? ⟨B, 1, none⟩ = some (.slice ap lp.length kp) := hEz.cell 1; have y2 : wz.cell? ⟨B, 2, none⟩ = some (.int .i64 st) := hEz.cell 2; have y3 : wz.cell? ⟨B, 3, none⟩ = some (.slice af lf.length kf) := hEz.cell 3; have y4 : wz.cell? ⟨B, 4, none⟩ = some (S body) := hEz.cell 4; have y5 : wz.cell? ⟨B, 5, none⟩ = some (.int .i64 asked) := hEz.cell 5; have y6 : wz.cell? ⟨B, 6, none⟩ = some (.int .i64 came) := hEz.cell 6); replace r0 := ((bcell hbz).1 gb (goo) hgb).trans r0; replace r1 := ((bcell hbz).1 gb (goo + 1) hgb).trans r1; replace r2 := ((bcell hbz).1 gb (goo + 2) hgb).trans r2; replace r3 := ((bcell hbz).1 gb (goo + 3) hgb).trans r3; replace r4 := ((bcell hbz).1 gb (goo + 4) hgb).trans r4; replace r5 := ((bcell hbz).1 gb (goo + 5) hgb).trans r5; replace r6 := ((bcell hbz).1 gb (goo + 6) hgb).trans r6))
                  all_goals
                    go_wp2
                    go_ret
                    exact ⟨rfl, by rw [← HB.out]; exact hwa.trans (hbz.mono (Nat.le_of_lt hBa))⟩
  · have hPut := Put_long R w6s.heap.size (R + 2) R (R + 1) 1048576 0 [] ⟨key, .slice a6 lp.length c6, st, .slice a5 lf.length c5, body, asked, came⟩ lp lf w6s hs6 hpst hfst (by show key.length ≤ _; omega) (by show body.length ≤ _; omega) (by omega) (by omega) (by omega) (by show (1048576 : Int) < ((64 + key.length + body.length + fsum lf + fsum lp : Nat) : Int); omega)
    go_wp2_with fail
    refine hPut.mono ?_
    rintro e w7 ⟨rfl, hs7, hb7⟩
    have hE7 := hE6.but hb7 hBf
    have hw7 : Below B w w7 := hw6.trans (hb7.below (fun k hk => by have := hs6.base k hk; omega) (by omega))
    clear x0 x1 x2 x3 x4 x5 x6 hO6s hE6
    (have x0 : w7.cell? ⟨B, 0, none⟩ = some (S key) := hE7.cell 0; have x1 : w7.cell? ⟨B, 1, none⟩ = some (.slice ap lp.length kp) := hE7.cell 1; have x2 : w7.cell? ⟨B, 2, none⟩ = some (.int .i64 st) := hE7.cell 2; have x3 : w7.cell? ⟨B, 3, none⟩ = some (.slice af lf.length kf) := hE7.cell 3; have x4 : w7.cell? ⟨B, 4, none⟩ = some (S body) := hE7.cell 4; have x5 : w7.cell? ⟨B, 5, none⟩ = some (.int .i64 asked) := hE7.cell 5; have x6 : w7.cell? ⟨B, 6, none⟩ = some (.int .i64 came) := hE7.cell 6)
    have hcost := refCost_any ⟨key, .slice ap lp.length kp, st, .slice af lf.length kf, body, asked, came⟩ lp lf w7 ((hp.below hw7).mono (Nat.le_of_lt hE7.lt)) ((hf.below hw7).mono (Nat.le_of_lt hE7.lt)) (by show key.length ≤ _; omega) (by show body.length ≤ _; omega) (by omega) (by omega)
    have hcf : costF ⟨key, .slice ap lp.length kp, st, .slice af lf.length kf, body, asked, came⟩ lp lf = 64 + key.length + body.length + fsum lf + fsum lp := rfl
    rw [hcf] at hcost
    clear hcf
    obtain ⟨c, ec⟩ : ∃ c, c = 64 + key.length + body.length + fsum lf + fsum lp := ⟨_, rfl⟩
    rw [← ec] at hcost hc
    have hcd : decide ((1048576 : Int) < (c : Int)) = true := by simp; omega
    clear ec
    go_wp2_with fail
    refine hcost.mono ?_
    rintro e w8 ⟨rfl, hb8⟩
    go_wp2
    go_ret
    exact ⟨rfl, by rw [← HB.out]; exact hw7.trans (hb8.mono (Nat.le_of_lt hE7.lt))⟩

end Go.Proofs.YthjkbempgnihmaaDoor
