/- Parts of the proof of bk_root: the texts Cnw7 Fpt1. -/
import Derived.Test.YtcodgfmombehoaaGreatDoorK18
set_option linter.unusedSimpArgs false
set_option linter.unusedVariables false
set_option linter.unnecessarySimpa false
set_option maxRecDepth 100000
set_option maxHeartbeats 64000000
namespace Go.Proofs.YtcodgfmombehoaaGreatDoor
open Go Go.RowKit Go.Dr
variable {w w' : World} {n : Nm} {m m' : Mm} {q q' : Cq}
theorem put7s {w : World} {g : Nat} {t : TypeId} {z0 z1 z2 z3 z4 z5 z6 : Value} (h : Blk w g t #[z0, z1, z2, z3, z4, z5, z6]) (b1 b2 : Value) : Blk ((w.setCell ⟨g, 1, none⟩ b1).setCell ⟨g, 2, none⟩ b2) g t #[z0, b1, b2, z3, z4, z5, z6] := (h.set 1 b1).set 2 b2
theorem oth5 {w : World} {b g : Nat} {t : TypeId} {xs : Array Value} (h : Blk w b t xs) (hn : b ≠ g) (b0 b1 b2 b3 b4 : Value) : Blk (((((w.setCell ⟨g, 0, none⟩ b0).setCell ⟨g, 1, none⟩ b1).setCell ⟨g, 2, none⟩ b2).setCell ⟨g, 3, none⟩ b3).setCell ⟨g, 4, none⟩ b4) b t xs :=
 ((((h.other (p := ⟨g, 0, none⟩) hn _).other (p := ⟨g, 1, none⟩) hn _).other (p := ⟨g, 2, none⟩) hn _).other (p := ⟨g, 3, none⟩) hn _).other (p := ⟨g, 4, none⟩) hn _
abbrev zReq : Array Value := #[S [], S [], S [], S [], .slice none 0 0]
theorem Cx.goesN (hx : Cx w n m q) {i : Int} {s : Sp} {b : Nat} (hb : But (fun g => g = n.lm) w w') (hbn : b < w.heap.size) (hbF : ¬ Foot n m q b) (hbB : n.B ≤ b) (hs : Blk w b 101 (s.cells (.slice none 0 0))) (hpd : s.pend = []) (hi : ∀ p ∈ q.live, p.1 ≠ i) (hl : LMp w' n.lm ((q.live.map fun p => (p.1, m.sb p.1)) ++ [(i, b)])) :
  ∃ m', Cx w' n m' { q with live := q.live ++ [(i, s)] } ∧ But (Foot n m q) w w' ∧ ∀ g, Foot n m' { q with live := q.live ++ [(i, s)] } g → Foot n m q g ∨ g = b := by
 obtain ⟨-, -, -, -, -, -, -, k1, -, -, -, -, -, -, kbv, knv, kcv, ksd⟩ := hx.kinds;obtain ⟨m', em⟩ : ∃ m' : Mm, m' = { m with sb := fun j => if j = i then b else m.sb j, sv := fun j => if j = i then .slice none 0 0 else m.sv j } := ⟨_, rfl⟩;have hold : ∀ p ∈ q.live, m'.sb p.1 = m.sb p.1 ∧ m'.sv p.1 = m.sv p.1 := fun p hp => by rw [em];simp [hi p hp]
 have hnew : m'.sb i = b ∧ m'.sv i = .slice none 0 0 := (by rw [em];simp)
 have hcases : ∀ p ∈ q.live ++ [(i, s)], p ∈ q.live ∨ p = (i, s) := fun p hp => by
  rcases List.mem_append.1 hp with h | h
  ·exact .inl h
  ·exact .inr (by simpa using h)
 have hbl : n.lm ≠ b := fun e => hbF (e ▸ Foot.lm)
 have hX := hx.upL hb (fun g hg => .inl hg) m' (q.live ++ [(i, s)]) (by rw [em]) (by
   rw [List.map_append, List.map_cons, List.map_nil, hnew.1];rw [show (q.live.map fun p => (p.1, m'.sb p.1)) = q.live.map fun p => (p.1, m.sb p.1) from List.map_congr_left fun p hp => by rw [(hold p hp).1]]
   exact hl)
  (fun p hp => by
   rcases hcases p hp with h | rfl
   ·rw [(hold p h).1, (hold p h).2]
    exact (hx.side p h).but hb (by have := (ksd p h).1;intro e;rw [e] at this;omega)
   ·show Blk w' (m'.sb i) _ (s.cells (m'.sv i))
    rw [hnew.1, hnew.2]
    exact hs.but hb (fun e => hbl e.symm))
  (fun p hp => by
   rcases hcases p hp with h | rfl
   ·rw [(hold p h).2]
    exact own_same (hx.pend p h) fun g hg => hb.block g (own_lt (hx.pend p h) hg).2 (by have := (ksd p h).2 g hg;rintro rfl;omega)
   ·show World.ownsRow _ _ _ _ (m'.sv i) _ _
    rw [hnew.2, hpd]
    exact World.ownsRow_nil _ _ _ _)
  (fun p hp g hg => by
   rcases hcases p hp with h | rfl
   ·rw [(hold p h).2] at hg
    exact hx.bp p h g hg
   ·have hg' : some g = (m'.sv i).ownBlock := hg
    rw [hnew.2] at hg'
    cases hg')
  (fun p hp p' hp' hne => by
   rcases hcases p hp with h | rfl <;> rcases hcases p' hp' with h' | rfl
   ·rw [(hold p h).1, (hold p h).2, (hold p' h').1, (hold p' h').2]
    exact hx.ss p h p' h' hne
   ·rw [(hold p h).1, (hold p h).2]
    show m.sb p.1 ≠ m'.sb i ∧ ∀ g, _ → some g ≠ (m'.sv i).ownBlock
    rw [hnew.1, hnew.2];exact ⟨fun e => hbF (e ▸ Foot.side h), fun g _ e => by cases e⟩
   ·rw [(hold p' h').1, (hold p' h').2]
    show m'.sb i ≠ _ ∧ ∀ g, some g = (m'.sv i).ownBlock → _
    rw [hnew.1, hnew.2];exact ⟨fun e => hbF (e ▸ Foot.side h'), fun g e => by cases e⟩
   ·exact absurd rfl hne)
  (fun p hp => by
   rcases hcases p hp with h | rfl
   ·rw [(hold p h).1]
    exact hx.lo _ (Foot.side h)
   ·show n.B ≤ m'.sb i
    rw [hnew.1]
    exact hbB)
 refine ⟨m', hX, hb.more fun g hg => by rw [hg];exact Foot.lm, fun g hg => ?_⟩
 rcases hg with hg | hg | hg | ⟨p, hp, hg⟩
 ·exact .inl (.inl hg)
 ·exact .inl (.inr (.inl hg))
 ·rw [em] at hg
  exact .inl (.inr (.inr (.inl hg)))
 ·rcases hcases p hp with h | rfl
  ·rw [(hold p h).1, (hold p h).2] at hg
   exact .inl (.inr (.inr (.inr ⟨p, h, hg⟩)))
  ·have hg' : g = m'.sb i ∨ some g = (m'.sv i).ownBlock := hg
   rw [hnew.1, hnew.2] at hg'
   rcases hg' with h | h
   ·exact .inr h
   ·cases h
abbrev askV (i : Int) (a b c d : Bytes) (e : Bool) : List Value := [.int .i64 1, .int .i64 i, S a, S b, S c, S d, .slice none 0 0, S [], .bool e, .int .i64 0]
theorem Begin_ok {F : Nat → Prop} (w : World) (h : Cw w n q F) (i : Int) (hi : I64 i) (hi1 : ¬ i < 1) (vl : Value) (ma sc au pa : Bytes) (e : Bool) (heq : q.endOf = e) (hd : q.drained = false) (hr : (q.live.length : Int) < q.str) (hll : q.live.length < 1000) (hol : q.off.length < 1000) (hnl : q.news.length ≤ 10000000) (hni : ∀ p ∈ q.live, p.1 ≠ i) (hno : ∀ p ∈ q.off, p.1 ≠ i)
  (hRead : ∀ w1, But F w w1 → Calls Tryz.prog 146 #[vl] w1 fun e w' => e = .returned (.tuple #[.agg #[S ma, S sc, S au, S pa, .slice none 0 0], .int .i64 0]) ∧ Below w1.heap.size w1 w')
  (hLen : ∀ w1 : World, Calls Tryz.prog 147 #[.slice none 0 0] w1 fun e w' => e = .returned (.tuple #[.int .i64 0, .bool false, .int .i64 0]) ∧ w' = w1) :
  Calls Tryz.prog 127 #[Ptr n.c, .int .i64 i, vl, .bool false] w fun r w' => r = .returned (.tuple #[]) ∧ Goes w n F w' { q with last := i, live := q.live ++ [(i, { st := if e then 2 else 1 })], off := q.off ++ [(i, 0)], news := q.news ++ askV i ma sc au pa e } := by
 have g0 := GoesF.refl h;obtain ⟨m, hx, rfl⟩ := h;have y15 : w.cell? ⟨n.c, 15, none⟩ = some (.bool e) := (by rw [← heq];exact hx.blk.cell 15);obtain ⟨st, est⟩ : ∃ st : Int, st = if e then 2 else 1 := ⟨_, rfl⟩
 rw [← est]
 have hCome : ∀ w : World, Calls Tryz.prog 121 #[.int .i64 0, .int .i64 1, .bool e] w fun r w' => r = .returned (.agg #[.int .i64 st, .bool false, .bool false, .int .i64 0, .bool false]) ∧ Below w.heap.size w w' := fun w => by
  rw [est]
  cases e
  ·exact come_0_1_false w
  ·exact come_0_1_true w
 clear est;have hB : n.B ≤ w.heap.size := Nat.le_trans (hx.lo _ (Foot.c _ _ _)) (Nat.le_of_lt hx.blk.lt);go_enter Tryz.func127, Tryz.ntmps127
 go_upto_region 1 with (go_at_call 121;(with_reducible refine (hCome _).mono ?_);rintro r w1 ⟨rfl, hb1⟩;have hz1 := hb1.size)
 refine wp_cut (R := fun W => Blk W w1.heap.size 197 #[.int .i64 st, .bool false, .bool false, .int .i64 0, .bool false] ∧ Below w.heap.size w W) ⟨Blk.new _ _ _, hb1.alloc hz1 _⟩ ?_;rintro W2 ⟨hM2, hb2⟩;have hx2 := hx.on hb2;have f12 := hx2.blk.free 12;have y12 : W2.cell? ⟨n.c, 12, none⟩ = some (.int .i64 q.last) := hx2.blk.cell 12;go_upto_region 2 with fail;obtain ⟨hx3, k3⟩ := hx2.goesC1 12 (.int .i64 i) { q with last := i } rfl rfl rfl;have g3 := (g0.on hb2).comp k3;have hM3 := hM2.other (p := ⟨n.c, 12, none⟩) (by have := hx.blk.lt;show w1.heap.size ≠ n.c;omega) (.int .i64 i);refine wp_cut (R := fun W => Blk W w1.heap.size 197 #[.int .i64 st, .bool false, .bool false, .int .i64 0, .bool false] ∧ Cx W n m { q with last := i } ∧ GoesF w n (Foot n m q) W { q with last := i } (Foot n m { q with last := i })) ⟨hM3, hx3, g3⟩ ?_;clear hM2 hM3 hx2 hx3 k3 g3 f12 y12 hb2 W2;rintro W3 ⟨hM3, hx3, g3⟩;have y17 : W3.cell? ⟨n.c, 17, none⟩ = some (.bool false) := (by rw [← hd];exact hx3.blk.cell 17);have y9 : W3.cell? ⟨n.c, 9, none⟩ = some (.map (some n.lm)) := hx3.blk.cell 9;have y0 : W3.cell? ⟨n.c, 0, none⟩ = some (.int .i64 q.str) := hx3.blk.cell 0;have hlen := hx3.live.len Tryz.underlying71 3;have hlen2 := hx3.drew.live.len Tryz.underlying71 3;rw [List.length_map] at hlen hlen2;have hr' : ¬ q.str ≤ (q.live.length : Int) := (by omega)
 have u0 : W3.cell? ⟨w1.heap.size, 0, none⟩ = some (.int .i64 st) := hM3.cell 0;have HH := Lib.hid hd;have HR := Lib.hid hr;clear hd hr;go_upto_region 4 with fail
 go_region
 go_upto_region 10 with fail;refine wp_cut (R := fun W => Blk W W3.heap.size 101 #[.int .i64 0, .int .i64 0, .bool false, .bool false, .slice none 0 0, .bool false, .int .i64 st] ∧ Blk W (W3.heap.size + 1) 66 zReq ∧ Below W3.heap.size W3 W) ⟨(bnew_at _ _ _ _ rfl).alloc _, bnew_at _ _ _ _ (by simp), ((Below.refl _ _).drew.alloc (Nat.le_refl _) _).alloc (by simp) _⟩ ?_;rintro W4 ⟨hS4, hQ4, hb4⟩;have hR4 := hRead W4 (g3.b.trans (But.of_below hb4));have hz4 := hb4.size;have hz3 := g3.b.size;go_upto_region 11 with (go_at_call 146;(with_reducible refine hR4.mono ?_);rintro r w5 ⟨rfl, hb5⟩;have hS5 := hS4.on hb5;have hQ5 := hQ4.on hb5;have hz5 := hb5.size;have r0 : w5.cell? ⟨W3.heap.size + 1, 0, none⟩ = some (S []) := hQ5.cell 0;have r1 : w5.cell? ⟨W3.heap.size + 1, 1, none⟩ = some (S []) := hQ5.cell 1;have r2 : w5.cell? ⟨W3.heap.size + 1, 2, none⟩ = some (S []) := hQ5.cell 2;have r3 : w5.cell? ⟨W3.heap.size + 1, 3, none⟩ = some (S []) := hQ5.cell 3;have r4 : w5.cell? ⟨W3.heap.size + 1, 4, none⟩ = some (.slice none 0 0) := hQ5.cell 4;have s0 := hQ5.free 0;have s1 := hQ5.free 1;have s2 := hQ5.free 2;have s3 := hQ5.free 3;have s4 := hQ5.free 4)
 refine wp_cut (R := fun W => Blk W W3.heap.size 101 #[.int .i64 0, .int .i64 0, .bool false, .bool false, .slice none 0 0, .bool false, .int .i64 st] ∧ Blk W (W3.heap.size + 1) 66 #[S ma, S sc, S au, S pa, .slice none 0 0] ∧ Below W3.heap.size W3 W) ⟨oth5 hS5 (by omega) _ _ _ _ _, put5 hQ5 _ _ _ _ _, bel5 (hb4.trans (hb5.mono hz4)) (by omega) _ _ _ _ _⟩ ?_;clear r0 r1 r2 r3 r4 s0 s1 s2 s3 s4 hS5 hQ5 hS4 hQ4 hb4 hb5 hR4 hz4 hz5;rintro W6 ⟨hS6, hQ6, hb6⟩;have hL := hLen W6;have q4 : W6.cell? ⟨W3.heap.size + 1, 4, none⟩ = some (.slice none 0 0) := hQ6.cell 4;have t1 : W6.cell? ⟨W3.heap.size, 1, none⟩ = some (.int .i64 0) := hS6.cell 1;have t2 : W6.cell? ⟨W3.heap.size, 2, none⟩ = some (.bool false) := hS6.cell 2;have v1 := hS6.free 1;have v2 := hS6.free 2;go_upto_region 12 with (go_at_call 147;(with_reducible refine hL.mono ?_);rintro r w7 ⟨rfl, e7⟩;subst e7)
 refine wp_cut (R := fun W => Blk W W3.heap.size 101 #[.int .i64 0, .int .i64 0, .bool false, .bool false, .slice none 0 0, .bool false, .int .i64 st] ∧ Blk W (W3.heap.size + 1) 66 #[S ma, S sc, S au, S pa, .slice none 0 0] ∧ Below W3.heap.size W3 W) ⟨put7s hS6 _ _, (hQ6.other (p := ⟨_, 1, none⟩) (by simp) _).other (p := ⟨_, 2, none⟩) (by simp) _, (hb6.setCell (p := ⟨_, 1, none⟩) (Nat.le_refl _) _).setCell (p := ⟨_, 2, none⟩) (Nat.le_refl _) _⟩ ?_;clear q4 t1 t2 v1 v2 hL hS6 hQ6 hb6;rintro W8 ⟨hS8, hQ8, hb8⟩;have hx8 := hx3.on hb8;have y15 : W8.cell? ⟨n.c, 15, none⟩ = some (.bool e) := (by rw [← heq];exact hx8.blk.cell 15);have y9 : W8.cell? ⟨n.c, 9, none⟩ = some (.map (some n.lm)) := hx8.blk.cell 9;have t1 : W8.cell? ⟨W3.heap.size, 1, none⟩ = some (.int .i64 0) := hS8.cell 1;obtain ⟨W9, hrun9, hl9, ht9⟩ := hx8.live.put hi (by intro p hp;obtain ⟨p', hp', rfl⟩ := List.mem_map.1 hp;exact hni p' hp') (by rw [List.length_map];unfold maxLen;show q.live.length < _;omega) W3.heap.size;have hsb9 : ¬ Foot n m { q with last := i } W3.heap.size := fun hf => by have := hx3.foot_lt hf;omega
 obtain ⟨m9, hx9, hb9, hf9⟩ := hx8.goesN (i := i) (s := { st := st }) (but_turn2 ht9) (by have := hS8.lt;omega) hsb9 (by omega) hS8 rfl hni hl9;have hQ9 : Blk W9 (W3.heap.size + 1) 66 #[S ma, S sc, S au, S pa, .slice none 0 0] := hQ8.but hb9 (fun hf => by have := hx3.foot_lt hf;omega)
 have g9 : GoesF w n (Foot n m q) W9 { q with last := i, live := q.live ++ [(i, { st := st })] } (Foot n m9 { q with last := i, live := q.live ++ [(i, { st := st })] }) := ⟨⟨m9, hx9, rfl⟩, (g3.on hb8).b.trans2 hb9 (g3.on hb8).s, fun g hg => by
  rcases hf9 g hg with h | h
  ·exact g3.s g h
  ·exact .inr (by omega)⟩
 have hO := Opened_any W9 g9.h i hi (by omega) hno (by show q.off.length < _;omega);have z7 : W9.cell? ⟨n.c, 7, none⟩ = some (Ptr n.bk) := hx9.blk.cell 7
 cases e
 ·go_upto_region 18 with (go_at_call 148;(with_reducible refine hO.mono ?_);rintro r w10 ⟨rfl, hg10⟩;obtain ⟨F10, k10⟩ := g9.step hg10;have hQ10 : Blk w10 (W3.heap.size + 1) 66 #[S ma, S sc, S au, S pa, .slice none 0 0] := hQ9.but (let ⟨_, _, h, _⟩ := hg10;h) (fun hf => by rcases hf9 _ hf with h | h;exact absurd (hx3.foot_lt h) (by omega);omega);obtain ⟨m10, hx10, eF10⟩ := k10.h;subst eF10;have x15 : w10.cell? ⟨n.c, 15, none⟩ = some (.bool q.endOf) := hx10.blk.cell 15;rw [heq] at x15;have p0 : w10.cell? ⟨W3.heap.size + 1, 0, none⟩ = some (S ma) := hQ10.cell 0;have p1 : w10.cell? ⟨W3.heap.size + 1, 1, none⟩ = some (S sc) := hQ10.cell 1;have p2 : w10.cell? ⟨W3.heap.size + 1, 2, none⟩ = some (S au) := hQ10.cell 2;have p3 : w10.cell? ⟨W3.heap.size + 1, 3, none⟩ = some (S pa) := hQ10.cell 3;have p4 : w10.cell? ⟨W3.heap.size + 1, 4, none⟩ = some (.slice none 0 0) := hQ10.cell 4;have kd10 := k10.on ((Below.refl w10.heap.size w10).drew);have hT := Tell_any (h0 := .int .i64 1) (h1 := .int .i64 i) (h2 := S ma) (h3 := S sc) (h4 := S au) (h5 := S pa) (h6 := .slice none 0 0) (h7 := .string ⟨#[]⟩) (h8 := .bool false) (h9 := .int .i64 0) w10.drew k10.h.drew (by intro u hu;simp at hu;rcases hu with rfl | rfl | rfl | rfl | rfl | rfl | rfl | rfl | rfl | rfl <;> rfl) hnl)
  all_goals (
   go_region_with (go_at_call 84;(with_reducible refine hT.mono ?_);rintro r w11 ⟨rfl, hg11⟩;obtain ⟨F11, k11⟩ := kd10.step hg11)
   all_goals go_wp2
   all_goals go_end0
   all_goals exact ⟨rfl, k11.goes⟩)
 ·go_upto_region 18 with (go_at_call 148;(with_reducible refine hO.mono ?_);rintro r w10 ⟨rfl, hg10⟩;obtain ⟨F10, k10⟩ := g9.step hg10;have hQ10 : Blk w10 (W3.heap.size + 1) 66 #[S ma, S sc, S au, S pa, .slice none 0 0] := hQ9.but (let ⟨_, _, h, _⟩ := hg10;h) (fun hf => by rcases hf9 _ hf with h | h;exact absurd (hx3.foot_lt h) (by omega);omega);obtain ⟨m10, hx10, eF10⟩ := k10.h;subst eF10;have x15 : w10.cell? ⟨n.c, 15, none⟩ = some (.bool q.endOf) := hx10.blk.cell 15;rw [heq] at x15;have p0 : w10.cell? ⟨W3.heap.size + 1, 0, none⟩ = some (S ma) := hQ10.cell 0;have p1 : w10.cell? ⟨W3.heap.size + 1, 1, none⟩ = some (S sc) := hQ10.cell 1;have p2 : w10.cell? ⟨W3.heap.size + 1, 2, none⟩ = some (S au) := hQ10.cell 2;have p3 : w10.cell? ⟨W3.heap.size + 1, 3, none⟩ = some (S pa) := hQ10.cell 3;have p4 : w10.cell? ⟨W3.heap.size + 1, 4, none⟩ = some (.slice none 0 0) := hQ10.cell 4;have kd10 := k10.on ((Below.refl w10.heap.size w10).drew);have hT := Tell_any (h0 := .int .i64 1) (h1 := .int .i64 i) (h2 := S ma) (h3 := S sc) (h4 := S au) (h5 := S pa) (h6 := .slice none 0 0) (h7 := .string ⟨#[]⟩) (h8 := .bool true) (h9 := .int .i64 0) w10.drew k10.h.drew (by intro u hu;simp at hu;rcases hu with rfl | rfl | rfl | rfl | rfl | rfl | rfl | rfl | rfl | rfl <;> rfl) hnl)
  all_goals (
   go_region_with (go_at_call 84;(with_reducible refine hT.mono ?_);rintro r w11 ⟨rfl, hg11⟩;obtain ⟨F11, k11⟩ := kd10.step hg11)
   all_goals go_wp2
   all_goals go_end0
   all_goals exact ⟨rfl, k11.goes⟩)
open Go.RowKit Go.Dr
theorem Blk.kcell {w : World} {b : Nat} {t : TypeId} {xs : Array Value} (h : Blk w b t xs) (k : Nat) (u : Value) (hu : xs[k]? = some u) : w.cell? ⟨b, k, none⟩ = some u := (h.cell k).trans hu
theorem own_of_blk {w : World} {b : Nat} {e : TypeId} {size n c : Nat} {xs : Array Value} (h : Blk w b e xs) {base : Nat} (hb : base ≤ b) (hl : xs.size = n * size) (hc : c = n) (hm : n ≤ maxLen) : w.ownsRow base e size (.slice (some ⟨b, 0, none⟩) n c) n xs.toList := by
 subst hc;refine ⟨by simpa using hl, .inr ⟨b, c, xs, rfl, hb, h, Nat.le_refl _, hm, hl, ?_⟩⟩;rw [List.take_of_length_le];simp [hl]
theorem oPut2 (n : Nat) (hn : n < 4294967296) (w : World) : Calls Tryz.prog 79 #[.int .u32 (n : Int), .int .i64 2] w fun e w' => ∃ v, e = .returned v ∧ w'.ownsRow w.heap.size 5 1 v 2 ((beP n 2).map B8) ∧ Below w.heap.size w w' := by
 have hM : (Instr.makeSlice 39 (.int .i64 2) (.int .i64 2)).run Tryz.prog w = .ok (.slice (some ⟨w.heap.size, 0, none⟩) 2 2) (w.alloc (.cells #[.int .u8 0, .int .u8 0] 5)) := (by kernel_rfl);have hA : Blk (w.alloc (.cells #[.int .u8 0, .int .u8 0] 5)) w.heap.size 5 #[.int .u8 0, .int .u8 0] := Blk.new _ _ _;have c0 := Blk.kcell hA 0 (.int .u8 0) rfl;have f0 := hA.free 0;have c1 := Blk.kcell hA 1 (.int .u8 0) rfl;have f1 := hA.free 1;have hb0 : Below w.heap.size w (w.alloc (.cells #[.int .u8 0, .int .u8 0] 5)) := (Below.refl _ _).alloc (Nat.le_refl _) _;have hz : w.heap.size < (w.alloc (.cells #[.int .u8 0, .int .u8 0] 5)).heap.size := (by simp);generalize w.alloc (.cells #[.int .u8 0, .int .u8 0] 5) = W at *;go_enter Tryz.func79, Tryz.ntmps79
 go_wp2;refine wp_loop_rounds 3 ?_;rw [rounds_succ];go_wp2;rw [rounds_succ];go_wp2;rw [rounds_succ];go_wp2;go_ret;have e16 : (n : Int) / 16777216 % 256 = (n : Int) / 16777216 := (by omega);refine ⟨_, rfl, ?_, ((hb0.setCell (p := ⟨w.heap.size, 1, none⟩) (Nat.le_refl _) _).setCell (p := ⟨w.heap.size, 0, none⟩) (Nat.le_refl _) _)⟩;rw [beP_b8 n 2 hn];have hO := own_of_blk (((hA.set 1 (.int .u8 ((n : Int) % 256))).set 0 (.int .u8 ((n : Int) / 256 % 256)))) (base := w.heap.size) (size := 1) (n := 2) (c := 2) (Nat.le_refl _) rfl rfl (by decide);simpa [e16] using hO
theorem oPut3 (n : Nat) (hn : n < 4294967296) (w : World) : Calls Tryz.prog 79 #[.int .u32 (n : Int), .int .i64 3] w fun e w' => ∃ v, e = .returned v ∧ w'.ownsRow w.heap.size 5 1 v 3 ((beP n 3).map B8) ∧ Below w.heap.size w w' := by
 have hM : (Instr.makeSlice 39 (.int .i64 3) (.int .i64 3)).run Tryz.prog w = .ok (.slice (some ⟨w.heap.size, 0, none⟩) 3 3) (w.alloc (.cells #[.int .u8 0, .int .u8 0, .int .u8 0] 5)) := (by kernel_rfl);have hA : Blk (w.alloc (.cells #[.int .u8 0, .int .u8 0, .int .u8 0] 5)) w.heap.size 5 #[.int .u8 0, .int .u8 0, .int .u8 0] := Blk.new _ _ _;have c0 := Blk.kcell hA 0 (.int .u8 0) rfl;have f0 := hA.free 0;have c1 := Blk.kcell hA 1 (.int .u8 0) rfl;have f1 := hA.free 1;have c2 := Blk.kcell hA 2 (.int .u8 0) rfl;have f2 := hA.free 2;have hb0 : Below w.heap.size w (w.alloc (.cells #[.int .u8 0, .int .u8 0, .int .u8 0] 5)) := (Below.refl _ _).alloc (Nat.le_refl _) _;have hz : w.heap.size < (w.alloc (.cells #[.int .u8 0, .int .u8 0, .int .u8 0] 5)).heap.size := (by simp);generalize w.alloc (.cells #[.int .u8 0, .int .u8 0, .int .u8 0] 5) = W at *;go_enter Tryz.func79, Tryz.ntmps79
 go_wp2;refine wp_loop_rounds 4 ?_;rw [rounds_succ];go_wp2;rw [rounds_succ];go_wp2;rw [rounds_succ];go_wp2;rw [rounds_succ];go_wp2;go_ret;have e16 : (n : Int) / 16777216 % 256 = (n : Int) / 16777216 := (by omega);refine ⟨_, rfl, ?_, (((hb0.setCell (p := ⟨w.heap.size, 2, none⟩) (Nat.le_refl _) _).setCell (p := ⟨w.heap.size, 1, none⟩) (Nat.le_refl _) _).setCell (p := ⟨w.heap.size, 0, none⟩) (Nat.le_refl _) _)⟩;rw [beP_b8 n 3 hn];have hO := own_of_blk ((((hA.set 2 (.int .u8 ((n : Int) % 256))).set 1 (.int .u8 ((n : Int) / 256 % 256))).set 0 (.int .u8 ((n : Int) / 65536 % 256)))) (base := w.heap.size) (size := 1) (n := 3) (c := 3) (Nat.le_refl _) rfl rfl (by decide);simpa [e16] using hO
theorem oPut4 (n : Nat) (hn : n < 4294967296) (w : World) : Calls Tryz.prog 79 #[.int .u32 (n : Int), .int .i64 4] w fun e w' => ∃ v, e = .returned v ∧ w'.ownsRow w.heap.size 5 1 v 4 ((beP n 4).map B8) ∧ Below w.heap.size w w' := by
 have hM : (Instr.makeSlice 39 (.int .i64 4) (.int .i64 4)).run Tryz.prog w = .ok (.slice (some ⟨w.heap.size, 0, none⟩) 4 4) (w.alloc (.cells #[.int .u8 0, .int .u8 0, .int .u8 0, .int .u8 0] 5)) := (by kernel_rfl);have hA : Blk (w.alloc (.cells #[.int .u8 0, .int .u8 0, .int .u8 0, .int .u8 0] 5)) w.heap.size 5 #[.int .u8 0, .int .u8 0, .int .u8 0, .int .u8 0] := Blk.new _ _ _;have c0 := Blk.kcell hA 0 (.int .u8 0) rfl;have f0 := hA.free 0;have c1 := Blk.kcell hA 1 (.int .u8 0) rfl;have f1 := hA.free 1;have c2 := Blk.kcell hA 2 (.int .u8 0) rfl;have f2 := hA.free 2;have c3 := Blk.kcell hA 3 (.int .u8 0) rfl;have f3 := hA.free 3;have hb0 : Below w.heap.size w (w.alloc (.cells #[.int .u8 0, .int .u8 0, .int .u8 0, .int .u8 0] 5)) := (Below.refl _ _).alloc (Nat.le_refl _) _;have hz : w.heap.size < (w.alloc (.cells #[.int .u8 0, .int .u8 0, .int .u8 0, .int .u8 0] 5)).heap.size := (by simp);generalize w.alloc (.cells #[.int .u8 0, .int .u8 0, .int .u8 0, .int .u8 0] 5) = W at *;go_enter Tryz.func79, Tryz.ntmps79
 go_wp2;refine wp_loop_rounds 5 ?_;rw [rounds_succ];go_wp2;rw [rounds_succ];go_wp2;rw [rounds_succ];go_wp2;rw [rounds_succ];go_wp2;rw [rounds_succ];go_wp2;go_ret;have e16 : (n : Int) / 16777216 % 256 = (n : Int) / 16777216 := (by omega);refine ⟨_, rfl, ?_, ((((hb0.setCell (p := ⟨w.heap.size, 3, none⟩) (Nat.le_refl _) _).setCell (p := ⟨w.heap.size, 2, none⟩) (Nat.le_refl _) _).setCell (p := ⟨w.heap.size, 1, none⟩) (Nat.le_refl _) _).setCell (p := ⟨w.heap.size, 0, none⟩) (Nat.le_refl _) _)⟩;rw [beP_b8 n 4 hn];have hO := own_of_blk (((((hA.set 3 (.int .u8 ((n : Int) % 256))).set 2 (.int .u8 ((n : Int) / 256 % 256))).set 1 (.int .u8 ((n : Int) / 65536 % 256))).set 0 (.int .u8 ((n : Int) / 16777216 % 256)))) (base := w.heap.size) (size := 1) (n := 4) (c := 4) (Nat.le_refl _) rfl rfl (by decide);simpa [e16] using hO
theorem pFour (n : Nat) (hn : n < 4294967296) (w : World) : Calls Tryz.prog 80 #[.int .i64 (n : Int)] w fun e w' => ∃ v, e = .returned v ∧ w'.ownsRow w.heap.size 5 1 v 4 ((beP n 4).map B8) ∧ Below w.heap.size w w' := by
 have hc : (n : Int) % 4294967296 = (n : Int) := (by omega);go_enter Tryz.func80, Tryz.ntmps80
 go_wp2_with (go_at_call 79;refine (oPut4 n hn _).mono ?_;rintro e w3 ⟨v, rfl, hown, hb⟩)
 go_ret;exact ⟨_, rfl, hown, hb⟩
theorem Within1 (most x0 : Int) (b : Nat) (w : World) (h : Blk w b 2 #[.int .i64 x0]) (h0 : 0 ≤ x0 ∧ x0 ≤ most) : Calls Tryz.prog 108 #[.int .i64 most, .slice (some ⟨b, 0, none⟩) 1 1] w fun e w' => e = .returned (.bool true) ∧ w' = w := by
 have c0 : w.cell? ⟨b, 0, none⟩ = some (.int .i64 x0) := h.cell 0;have a0 : ¬ x0 < 0 := (by omega);have b0 : ¬ most < x0 := (by omega);clear h0;go_enter Tryz.func108, Tryz.ntmps108
 go_wp2;refine wp_loop_rounds 2 ?_;rw [rounds_succ];go_wp2;rw [rounds_succ];go_wp2;go_ret;exact ⟨rfl, rfl⟩
theorem Within4 (most x0 x1 x2 x3 : Int) (b : Nat) (w : World) (h : Blk w b 2 #[.int .i64 x0, .int .i64 x1, .int .i64 x2, .int .i64 x3]) (h0 : 0 ≤ x0 ∧ x0 ≤ most) (h1 : 0 ≤ x1 ∧ x1 ≤ most) (h2 : 0 ≤ x2 ∧ x2 ≤ most) (h3 : 0 ≤ x3 ∧ x3 ≤ most) : Calls Tryz.prog 108 #[.int .i64 most, .slice (some ⟨b, 0, none⟩) 4 4] w fun e w' => e = .returned (.bool true) ∧ w' = w := by
 have c0 : w.cell? ⟨b, 0, none⟩ = some (.int .i64 x0) := h.cell 0;have a0 : ¬ x0 < 0 := (by omega);have b0 : ¬ most < x0 := (by omega);have c1 : w.cell? ⟨b, 1, none⟩ = some (.int .i64 x1) := h.cell 1;have a1 : ¬ x1 < 0 := (by omega);have b1 : ¬ most < x1 := (by omega);have c2 : w.cell? ⟨b, 2, none⟩ = some (.int .i64 x2) := h.cell 2;have a2 : ¬ x2 < 0 := (by omega);have b2 : ¬ most < x2 := (by omega);have c3 : w.cell? ⟨b, 3, none⟩ = some (.int .i64 x3) := h.cell 3;have a3 : ¬ x3 < 0 := (by omega);have b3 : ¬ most < x3 := (by omega);clear h0 h1 h2 h3;go_enter Tryz.func108, Tryz.ntmps108
 go_wp2;refine wp_loop_rounds 5 ?_;rw [rounds_succ];go_wp2;rw [rounds_succ];go_wp2;rw [rounds_succ];go_wp2;rw [rounds_succ];go_wp2;rw [rounds_succ];go_wp2;go_ret;exact ⟨rfl, rfl⟩
end Go.Proofs.YtcodgfmombehoaaGreatDoor
