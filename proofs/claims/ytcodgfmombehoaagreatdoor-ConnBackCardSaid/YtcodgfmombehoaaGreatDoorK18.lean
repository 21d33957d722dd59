/- Parts of the proof of bk_root: the texts Hdr2 Cnw6 Stm2. -/
import Derived.Test.YtcodgfmombehoaaGreatDoorK17
set_option linter.unusedSimpArgs false
set_option linter.unusedVariables false
set_option linter.unnecessarySimpa false
set_option maxRecDepth 100000
set_option maxHeartbeats 64000000
namespace Go.Proofs.YtcodgfmombehoaaGreatDoor
open Go Go.RowKit Go.Dr
theorem Token_get (w : World) : Calls Tryz.prog 159 #[S [71, 69, 84]] w fun e w' => e = .returned (.bool true) ∧ w' = w := by
 go_enter Tryz.func159, Tryz.ntmps159
 go_wp2;refine wp_loop_rounds 4 ?_;rw [rounds_succ];go_wp2;rw [rounds_succ];go_wp2;rw [rounds_succ];go_wp2;rw [rounds_succ];go_wp2;go_ret;exact ⟨rfl, rfl⟩
theorem Path_ok (p : Bytes) (hp : p = [47] ∨ p = [47, 120]) (w : World) : Calls Tryz.prog 160 #[S p, S [71, 69, 84]] w fun e w' => e = .returned (.bool true) ∧ w' = w := by
 rcases hp with rfl | rfl
 ·go_enter Tryz.func160, Tryz.ntmps160
  go_wp2;refine wp_loop_rounds 2 ?_;rw [rounds_succ];go_wp2;rw [rounds_succ];go_wp2;go_ret;exact ⟨rfl, rfl⟩
 ·go_enter Tryz.func160, Tryz.ntmps160
  go_wp2;refine wp_loop_rounds 3 ?_;rw [rounds_succ];go_wp2;rw [rounds_succ];go_wp2;rw [rounds_succ];go_wp2;go_ret;exact ⟨rfl, rfl⟩
theorem Auth_h (w : World) : Calls Tryz.prog 176 #[S [104]] w fun e w' => e = .returned (.bool true) ∧ w' = w := by
 go_enter Tryz.func176, Tryz.ntmps176
 go_wp2;refine wp_loop_rounds 2 ?_;rw [rounds_succ];go_wp2;rw [rounds_succ];go_wp2;go_ret;exact ⟨rfl, rfl⟩
theorem Low_h (w : World) : Calls Tryz.prog 63 #[S [104]] w fun e w' => e = .returned (S [104]) ∧ Below w.heap.size w w' := by
 obtain ⟨cap, w1, hrun, hcap, hrow, hbel, hsz⟩ := run_bytes_row (P := Tryz.prog) w 9 39 5 [104] Tryz.underlying9 Tryz.underlying39 Tryz.underlying5;have c0 : w1.cell? ⟨w.heap.size, 0, none⟩ = some (.int .u8 104) := hrow.cell 0 (by simp);have hc : (convert 39 9 (.slice (some ⟨w.heap.size, 0, none⟩) 1 cap)).run Tryz.prog w1 = .ok (S [104]) w1 := run_string_row (P := Tryz.prog) w1 39 9 5 w.heap.size cap [104] Tryz.underlying39 Tryz.underlying5 Tryz.underlying9 hrow;go_enter Tryz.func63, Tryz.ntmps63
 go_wp2;clear hrun;refine wp_loop_rounds 2 ?_;rw [rounds_succ];go_wp2;rw [rounds_succ];go_wp2;go_ret;exact ⟨rfl, hbel⟩
theorem Same_h (w : World) : Calls Tryz.prog 177 #[S [104], S [104]] w fun e w' => e = .returned (.bool true) ∧ Below w.heap.size w w' := by
 go_enter Tryz.func177, Tryz.ntmps177
 go_wp2_with fail;refine (Low_h _).mono ?_;rintro e w1 ⟨rfl, hb1⟩;go_wp2_with fail;refine (Low_h _).mono ?_;rintro e w2 ⟨rfl, hb2⟩;go_wp2;go_ret;exact ⟨rfl, hb1.trans (hb2.mono hb1.size)⟩
theorem Hosts_nil (w : World) : Calls Tryz.prog 161 #[.slice none 0 0] w fun e w' => e = .returned (.tuple #[.slice none 0 0, .slice none 0 0]) ∧ w' = w := by
 go_enter Tryz.func161, Tryz.ntmps161
 go_wp2;refine wp_loop_rounds 1 ?_;rw [rounds_succ];go_wp2;go_ret2;exact ⟨rfl, rfl⟩
theorem Cookies_nil (w : World) : Calls Tryz.prog 163 #[.slice none 0 0] w fun e w' => e = .returned (.slice none 0 0) ∧ w' = w := by
 go_enter Tryz.func163, Tryz.ntmps163
 go_wp2;refine wp_loop_rounds 1 ?_;rw [rounds_succ];go_wp2;go_ret;exact ⟨rfl, rfl⟩
theorem Place_h {mb : Nat} {l : List (Bytes × Bytes)} (w : World) (hm : TMp w mb l) (ha : (([58, 97, 117, 116, 104, 111, 114, 105, 116, 121] : Bytes), ([104] : Bytes)) ∈ l) :
  Calls Tryz.prog 162 #[.map (some mb), .slice none 0 0] w fun e w' => e = .returned (.tuple #[S [104], .int .i64 0]) ∧ Below w.heap.size w w' := by
 have hl : (Instr.lookup 243 (.map (some mb)) (.string ⟨#[58, 97, 117, 116, 104, 111, 114, 105, 116, 121]⟩) true).run Tryz.prog w = .ok (.tuple #[.agg #[S [104]], .bool true]) w := (TMp.inn hm (by decide) ha).1;have hfd : ∀ w' : World, (Instr.field 247 (.agg #[S [104]]) 0).run Tryz.prog w' = .ok (S [104]) w' := fun w' => by kernel_rfl
 go_enter Tryz.func162, Tryz.ntmps162
 go_wp2;refine wp_cut (R := fun W => (∃ t cs, Blk W (w.heap.size + 1 + 1) t cs ∧ cs[0]? = some (S [104])) ∧ Below w.heap.size w W) ⟨⟨_, _, (bnew_at _ _ _ _ (by simp)).drew, (by rw [Array.getElem?_append_left (by simp)];rfl)⟩, ((((Below.refl _ _).alloc (Nat.le_refl _) _).alloc (by simp) _).alloc (by simp;omega) _).drew⟩ ?_;rintro W1 ⟨⟨t, cs, hC, ec⟩, hb1⟩;have c0 : W1.cell? ⟨w.heap.size + 1 + 1, 0, none⟩ = some (S [104]) := (hC.cell 0).trans ec;generalize (Question.appendCap 1 0 9).cut (w.tape w.drawn (Question.appendCap 1 0 9)) = cap;refine wp_loop_rounds 2 ?_;rw [rounds_succ]
 go_wp2_with first
  | (go_at_call 176;(with_reducible refine (Auth_h _).mono ?_);rintro e w3 ⟨rfl, e3⟩;subst e3)
  | (go_at_call 177;go_must ((with_reducible refine (Same_h _).mono ?_);rintro e w3 ⟨rfl, hb3⟩;have c3 : w3.cell? ⟨w.heap.size + 1 + 1, 0, none⟩ = some (S [104]) := ((hC.on hb3).cell 0).trans ec))
 rw [rounds_succ]
 go_wp2_with first
  | (go_at_call 63;(with_reducible refine (Low_h _).mono ?_);rintro e w4 ⟨rfl, hb4⟩)
 go_ret2;exact ⟨rfl, (hb1.trans (hb3.mono hb1.size)).trans (hb4.mono (hb1.trans (hb3.mono hb1.size)).size)⟩
theorem putR5 {w : World} {b : Nat} {t : TypeId} {a0 a1 a2 a3 a4 : Value} (h : Blk w b t #[a0, a1, a2, a3, a4]) (x0 x1 x2 x3 x4 : Value) : Blk (((((w.setCell ⟨b, 0, none⟩ x0).setCell ⟨b, 1, none⟩ x1).setCell ⟨b, 2, none⟩ x2).setCell ⟨b, 3, none⟩ x3).setCell ⟨b, 4, none⟩ x4) b t #[x0, x1, x2, x3, x4] := ((((h.set 0 x0).set 1 x1).set 2 x2).set 3 x3).set 4 x4
abbrev nsG : List Bytes := [[58, 109, 101, 116, 104, 111, 100], [58, 115, 99, 104, 101, 109, 101], [58, 97, 117, 116, 104, 111, 114, 105, 116, 121], [58, 112, 97, 116, 104]]
abbrev fsG (p : Bytes) : List F := [fMethod, fScheme, fAuth, fPath p]
theorem Read_get {v : Value} (p : Bytes) (hp : p = [47] ∨ p = [47, 120]) (w : World) (h : Fs w.heap.size w v (fsG p)) :
  Calls Tryz.prog 146 #[v] w fun e w' => e = .returned (.tuple #[.agg #[S [71, 69, 84], S [104, 116, 116, 112], S [104], S p, .slice none 0 0], .int .i64 0]) ∧ Below w.heap.size w w' := by
 have hfd : ∀ (l : Bytes) (w' : World), (Instr.field 247 (.agg #[S l]) 0).run Tryz.prog w' = .ok (S l) w' := fun l w' => by kernel_rfl
 have hnn : ∀ f ∈ fsG p, f.n.head? = some 58 ∧ f.n.length ≤ 1000000 ∧ f.n ∈ nsG := (by simp);have hnd : ((fsG p).map F.n).Nodup := (by simp);have hbig : p.length ≤ 100 := (by rcases hp with rfl | rfl <;> decide);obtain ⟨W, eW⟩ : ∃ W, W = ((w.alloc (.cells #[S [], S [], S [], S [], .slice none 0 0] 66)).alloc (.cells (nsG.map S).toArray 9)) := ⟨_, rfl⟩;have hQ : Blk W w.heap.size 66 #[S [], S [], S [], S [], .slice none 0 0] := (by rw [eW];exact (bnew_at _ _ _ _ rfl).alloc _);have hN : Blk W (w.heap.size + 1) 9 (nsG.map S).toArray := (by rw [eW];exact bnew_at _ _ _ _ (by simp));have hb : Below w.heap.size w W := (by rw [eW];exact ((Below.refl _ _).alloc (Nat.le_refl _) _).alloc (by simp) _);have hG := Gather_any (N := 4) nsG (fsG p) v hnn hnd (by simp) W ((h.below hb).mono hb.size) rfl (by omega) hN;go_enter Tryz.func146, Tryz.ntmps146
 go_wp2_with first
  | (go_at_call 158;go_must (rw [show (#[.string ⟨#[58, 109, 101, 116, 104, 111, 100]⟩, .string ⟨#[58, 115, 99, 104, 101, 109, 101]⟩, .string ⟨#[58, 97, 117, 116, 104, 111, 114, 105, 116, 121]⟩, .string ⟨#[58, 112, 97, 116, 104]⟩] : Array Value) = (nsG.map S).toArray from rfl, ← eW];(with_reducible refine hG.mono ?_);rintro e w2 ⟨mb, rfl, hS2, hb2⟩;have hQ2 := hQ.on hb2;have l1 : (Instr.lookup 243 (.map (some mb)) (.string ⟨#[58, 109, 101, 116, 104, 111, 100]⟩) false).run Tryz.prog w2 = .ok (.agg #[S [71, 69, 84]]) w2 := (TMp.inn hS2 (by decide) (by simp)).2;have l2 : (Instr.lookup 243 (.map (some mb)) (.string ⟨#[58, 115, 99, 104, 101, 109, 101]⟩) false).run Tryz.prog w2 = .ok (.agg #[S [104, 116, 116, 112]]) w2 := (TMp.inn hS2 (by decide) (by simp)).2;have l3 : (Instr.lookup 243 (.map (some mb)) (.string ⟨#[58, 112, 97, 116, 104]⟩) false).run Tryz.prog w2 = .ok (.agg #[S p]) w2 := (TMp.inn hS2 (by decide) (by simp)).2;obtain ⟨W3, eW3⟩ : ∃ W3, W3 = w2.alloc (.cells #[S [71, 69, 84], S [104, 116, 116, 112], S [], S p, .slice none 0 0] 66) := ⟨_, rfl⟩;have hQ3 : Blk W3 w2.heap.size 66 #[S [71, 69, 84], S [104, 116, 116, 112], S [], S p, .slice none 0 0] := (by rw [eW3];exact Blk.new _ _ _);have hb3 : Below w2.heap.size w2 W3 := (by rw [eW3];exact (Below.refl _ _).alloc (Nat.le_refl _) _);have hS3 : TMp W3 mb _ := hS2.on hb3;have r0 : W3.cell? ⟨w2.heap.size, 0, none⟩ = some (S [71, 69, 84]) := hQ3.cell 0;have r1 : W3.cell? ⟨w2.heap.size, 1, none⟩ = some (S [104, 116, 116, 112]) := hQ3.cell 1;have r3 : W3.cell? ⟨w2.heap.size, 3, none⟩ = some (S p) := hQ3.cell 3))
  | (go_at_call 159;go_must (rw [show (w2.alloc (.cells #[.string ⟨#[71, 69, 84]⟩, .string ⟨#[104, 116, 116, 112]⟩, .string ⟨#[]⟩, .string ⟨p.toArray⟩, .slice none 0 0] 66)) = W3 from eW3.symm];clear eW3;(with_reducible refine (Token_get _).mono ?_);rintro e w4 ⟨rfl, e4⟩;subst e4))
  | (go_at_call 160;(with_reducible refine (Path_ok p hp _).mono ?_);rintro e w4 ⟨rfl, e4⟩;subst e4)
  | (go_at_call 161;(with_reducible refine (Hosts_nil _).mono ?_);rintro e w4 ⟨rfl, e4⟩;subst e4)
  | (go_at_call 162;go_must ((with_reducible refine (Place_h _ hS3 (by simp)).mono ?_);rintro e w5 ⟨rfl, hb5⟩;have hQ5 := hQ3.on hb5;have s0 : w5.cell? ⟨w2.heap.size, 0, none⟩ = some (S [71, 69, 84]) := hQ5.cell 0;have s1 : w5.cell? ⟨w2.heap.size, 1, none⟩ = some (S [104, 116, 116, 112]) := hQ5.cell 1;have s2 : w5.cell? ⟨w2.heap.size, 2, none⟩ = some (S []) := hQ5.cell 2;have s3 : w5.cell? ⟨w2.heap.size, 3, none⟩ = some (S p) := hQ5.cell 3;have s4 : w5.cell? ⟨w2.heap.size, 4, none⟩ = some (.slice none 0 0) := hQ5.cell 4;have f2 := hQ5.free 2;have f4 := hQ5.free 4;have hz2 := hQ2.lt;have hZ5 := (hQ2.on hb3).on (hb5.mono (Nat.le_refl _));have z0 : w5.cell? ⟨w.heap.size, 0, none⟩ = some (S []) := hZ5.cell 0;have z1 : w5.cell? ⟨w.heap.size, 1, none⟩ = some (S []) := hZ5.cell 1;have z2 : w5.cell? ⟨w.heap.size, 2, none⟩ = some (S []) := hZ5.cell 2;have z3 : w5.cell? ⟨w.heap.size, 3, none⟩ = some (S []) := hZ5.cell 3;have z4 : w5.cell? ⟨w.heap.size, 4, none⟩ = some (.slice none 0 0) := hZ5.cell 4;have y0 := hZ5.free 0;have y1 := hZ5.free 1;have y2 := hZ5.free 2;have y3 := hZ5.free 3;have y4 := hZ5.free 4))
  | (go_at_call 147;(with_reducible refine (Length_nil _).mono ?_);rintro e w6 ⟨rfl, e6⟩;subst e6)
  | (go_at_call 163;(with_reducible refine (Cookies_nil _).mono ?_);rintro e w6 ⟨rfl, e6⟩;subst e6)
 refine bodyPost_ret (results_cell_tmp Tryz.results146 rfl rfl (run_loadVar_row _ w.heap.size 66 66 _ (0, 0) _ (putR5 ((hZ5.other (p := ⟨w2.heap.size, 2, none⟩) (by simp;omega) (S [104])).other (p := ⟨w2.heap.size, 4, none⟩) (by simp;omega) (.slice none 0 0)) _ _ _ _ _) Tryz.underlying66 (by rfl) (by kernel_rfl))) rfl ⟨rfl, ?_⟩;have hw2 := hb.trans (hb2.mono hb.size);have hw5 := (hw2.trans (hb3.mono hw2.size)).trans (hb5.mono (hw2.trans (hb3.mono hw2.size)).size);exact ((((((hw5.setCell (p := ⟨w2.heap.size, 2, none⟩) (by simp;omega) _).setCell (p := ⟨w2.heap.size, 4, none⟩) (by simp;omega) _).setCell (p := ⟨w.heap.size, 0, none⟩) (by simp) _).setCell (p := ⟨w.heap.size, 1, none⟩) (by simp) _).setCell (p := ⟨w.heap.size, 2, none⟩) (by simp) _).setCell (p := ⟨w.heap.size, 3, none⟩) (by simp) _).setCell (p := ⟨w.heap.size, 4, none⟩) (by simp) _
open Go Go.RowKit Go.Dr
variable {w w' : World} {n : Nm} {m m' : Mm} {q q' : Cq}
theorem Cx.ids (hx : Cx w n m q) : (q.live.map (·.1)).Nodup := by
 have := hx.live.nodup
 rw [List.map_map] at this;exact this
theorem Cx.goesS (hx : Cx w n m q) {a c : List (Int × Sp)} {i : Int} {s : Sp} (hq : q.live = a ++ (i, s) :: c) (s' : Sp) (hb : But (fun g => g = m.sb i) w w') (hs : Blk w' (m.sb i) 101 (s'.cells (m.sv i))) (hp : s'.pend = s.pend) : Cx w' n m { q with live := a ++ (i, s') :: c } ∧ GoesF w n (Foot n m q) w' { q with live := a ++ (i, s') :: c } (Foot n m { q with live := a ++ (i, s') :: c }) := by
 obtain ⟨-, -, -, -, -, -, -, -, -, -, -, -, -, -, kbv, knv, kcv, ksd⟩ := hx.kinds;have hnd := hx.ids;rw [hq] at hnd;have hne := nodup_mid hnd;have hmem : ∀ p ∈ a ++ c, p ∈ q.live ∧ p.1 ≠ i := fun p hp => ⟨by rw [hq];rcases List.mem_append.1 hp with h | h;exact List.mem_append.2 (.inl h);exact List.mem_append.2 (.inr (.tail _ h)), hne p hp⟩
 have hi : (i, s) ∈ q.live := (by rw [hq];simp)
 have hcases : ∀ p ∈ a ++ (i, s') :: c, p = (i, s') ∨ p ∈ a ++ c := fun p hp => by
  rcases List.mem_append.1 hp with h | h
  ·exact .inr (List.mem_append.2 (.inl h))
  ·rcases List.mem_cons.1 h with h | h
   ·exact .inl h
   ·exact .inr (List.mem_append.2 (.inr h))
 have hsb : ∀ p ∈ a ++ c, m.sb p.1 ≠ m.sb i := fun p hp => (hx.ss p (hmem p hp).1 _ hi (hmem p hp).2).1
 have hpend : ∀ p ∈ q.live, w'.ownsRow n.B 5 1 (m.sv p.1) p.2.pend.length (p.2.pend.map B8) := fun p hp => own_same (hx.pend p hp) fun g hg => hb.block g (own_lt (hx.pend p hp) hg).2 (by have h1 := (ksd p hp).2 g hg;have h2 : kd w (m.sb i) = _ := (ksd _ hi).1;rintro rfl;omega)
 have hlv : ∀ p ∈ a ++ (i, s') :: c, ∃ p0 ∈ q.live, p0.1 = p.1 := fun p hp => by
  rcases hcases p hp with rfl | h
  ·exact ⟨_, hi, rfl⟩
  ·exact ⟨p, (hmem p h).1, rfl⟩
 have hX := hx.upS hb (fun g hg => .inl (by rw [hg];exact (ksd _ hi).1)) m (a ++ (i, s') :: c) rfl (by rw [hq];simp) (fun g hg => by have h1 := kbv g hg;have h2 : kd w (m.sb i) = _ := (ksd _ hi).1;rintro rfl;omega)
  (fun p hp => by
   rcases hcases p hp with rfl | h
   ·exact hs
   ·exact (hx.side p (hmem p h).1).but hb (hsb p h))
  (fun p hp' => by
   rcases hcases p hp' with rfl | h
   ·have := hpend _ hi
    simpa [hp] using this
   ·exact hpend p (hmem p h).1)
  (fun p hp => by
   obtain ⟨p0, h0, e0⟩ := hlv p hp;rw [← e0]
   exact hx.bp p0 h0)
  (fun p hp p' hp' => by
   obtain ⟨p0, h0, e0⟩ := hlv p hp;obtain ⟨p1, h1, e1⟩ := hlv p' hp';rw [← e0, ← e1]
   exact hx.ss p0 h0 p1 h1)
 refine ⟨hX, hX.goesF (hb.more fun g hg => by rw [hg];exact Foot.side hi) fun g hg => .inl ?_⟩
 rcases hg with hg | hg | hg | ⟨p, hp, hg⟩
 ·exact .inl hg
 ·exact .inr (.inl hg)
 ·exact .inr (.inr (.inl hg))
 ·obtain ⟨p0, h0, e0⟩ := hlv p hp
  rw [← e0] at hg;exact .inr (.inr (.inr ⟨p0, h0, hg⟩))
theorem Turn_live {F : Nat → Prop} (w : World) (h : Cw w n q F) (i : Int) (hi : I64 i) (t : Int) (ht : t = 1 ∨ t = 2 ∨ t = 3) {a c : List (Int × Sp)} {s : Sp} (hq : q.live = a ++ (i, s) :: c) : Calls Tryz.prog 67 #[Ptr n.c, .int .i64 i, .int .i64 t] w fun e w' => e = .returned (.tuple #[]) ∧ Goes w n F w' { q with live := a ++ (i, { s with st := t }) :: c } := by
 obtain ⟨m, hx, rfl⟩ := h;have y9 : w.cell? ⟨n.c, 9, none⟩ = some (.map (some n.lm)) := hx.blk.cell 9;have hm : (i, s) ∈ q.live := (by rw [hq];simp);have hk := (hx.live.inn hi (List.mem_map.2 ⟨_, hm, rfl⟩)).2;have hS := hx.side _ hm;have y6 : w.cell? ⟨m.sb i, 6, none⟩ = some (.int .i64 s.st) := hS.cell 6;have f6 := hS.free 6;have hlv : ∀ w : World, Calls Tryz.prog 51 #[.int .i64 t] w fun e w' => e = .returned (.bool true) ∧ w' = w := fun w => (Live_any t w).mono (by rintro e w' ⟨rfl, rfl⟩;exact ⟨ret_bool (by rcases ht with rfl | rfl | rfl <;> rfl), rfl⟩)
 go_enter Tryz.func67, Tryz.ntmps67
 go_wp2_with (go_at_call 51;(with_reducible refine (hlv _).mono ?_);rintro e w2 ⟨rfl, rfl⟩)
 refine bodyPost_ret (v := .tuple #[]) (by simp [results, Tryz.results67, go_sem]) rfl ?_;exact ⟨rfl, (hx.goesS hq { s with st := t } ((But.refl (fun g => g = m.sb i) _).setCell (p := ⟨m.sb i, 6, none⟩) (.inl rfl) _) (hS.set 6 _) rfl).2.goes⟩
theorem Turn_done {F : Nat → Prop} (w : World) (h : Cw w n q F) (i : Int) (hi : I64 i) : Calls Tryz.prog 67 #[Ptr n.c, .int .i64 i, .int .i64 4] w fun e w' => e = .returned (.tuple #[]) ∧ Goes w n F w' { q with live := sans q.live i, off := sans q.off i } := by
 have hlv : ∀ w : World, Calls Tryz.prog 51 #[.int .i64 4] w fun e w' => e = .returned (.bool false) ∧ w' = w := fun w => Live_any 4 w
 have hS := Settle_done w h i hi;go_enter Tryz.func67, Tryz.ntmps67
 go_wp2_with first
  | (go_at_call 51;(with_reducible refine (hlv _).mono ?_);rintro e w2 ⟨rfl, rfl⟩)
  | (go_at_call 85;(with_reducible refine hS.mono ?_);rintro e w3 ⟨rfl, hg3⟩)
 go_end0
 exact ⟨rfl, hg3⟩
theorem Go_asked (w : World) (k : Int) (hk : k = 0 ∨ k = 1) : Calls Tryz.prog 66 #[.int .i64 2, .int .i64 k, .bool true] w fun e w' => e = .returned (.tuple #[.int .i64 4, .bool true]) ∧ w' = w := by
 rcases hk with rfl | rfl <;>
 (go_enter Tryz.func66, Tryz.ntmps66;go_wp2;go_ret2;exact ⟨rfl, rfl⟩)
theorem Go_on (w : World) (s k : Int) (hs : s = 1 ∨ s = 2) (hk : k = 0 ∨ k = 1) : Calls Tryz.prog 66 #[.int .i64 s, .int .i64 k, .bool false] w fun e w' => e = .returned (.tuple #[.int .i64 s, .bool true]) ∧ w' = w := by
 rcases hk with rfl | rfl <;> rcases hs with rfl | rfl <;>
 (go_enter Tryz.func66, Tryz.ntmps66;go_wp2;go_ret2;exact ⟨rfl, rfl⟩)
theorem Went_done {F : Nat → Prop} (w : World) (h : Cw w n q F) (i k : Int) (hk : k = 0 ∨ k = 1) (hi : I64 i) {s : Sp} (hs : (i, s) ∈ q.live) (h2 : s.st = 2) : Calls Tryz.prog 33 #[Ptr n.c, .int .i64 i, .int .i64 k, .bool true] w fun e w' => e = .returned (.tuple #[]) ∧ Goes w n F w' { q with live := sans q.live i, off := sans q.off i, over := q.over || (q.drained && (sans q.live i).isEmpty) } := by
 have hT := Turn_done w h i hi;obtain ⟨m, hx, rfl⟩ := h;have y9 : w.cell? ⟨n.c, 9, none⟩ = some (.map (some n.lm)) := hx.blk.cell 9;have hl := (hx.live.inn hi (List.mem_map.2 ⟨_, hs, rfl⟩)).2;have y6 : w.cell? ⟨m.sb i, 6, none⟩ = some (.int .i64 2) := (by rw [← h2];exact (hx.side _ hs).cell 6);have hG := Go_asked w k hk;have g0 := GoesF.refl (F := Foot n m q) ⟨m, hx, rfl⟩;clear h2;go_enter Tryz.func33, Tryz.ntmps33
 go_wp2_with first
  | (go_at_call 66;(with_reducible refine hG.mono ?_);rintro e w2 ⟨rfl, rfl⟩)
  | (go_at_call 67;(with_reducible refine hT.mono ?_);rintro e w3 ⟨rfl, hg3⟩;obtain ⟨F3, k3⟩ := g0.step hg3;have hR := Rest_any w3 k3.h)
  | (go_at_call 54;(with_reducible refine hR.mono ?_);rintro e w4 ⟨rfl, hg4⟩;obtain ⟨F4, k4⟩ := k3.step hg4)
 go_end0
 exact ⟨rfl, k4.goes⟩
open Go.RowKit Go.Dr
theorem put5 {w : World} {g : Nat} {t : TypeId} {z0 z1 z2 z3 z4 : Value} (h : Blk w g t #[z0, z1, z2, z3, z4]) (b0 b1 b2 b3 b4 : Value) : Blk (((((w.setCell ⟨g, 0, none⟩ b0).setCell ⟨g, 1, none⟩ b1).setCell ⟨g, 2, none⟩ b2).setCell ⟨g, 3, none⟩ b3).setCell ⟨g, 4, none⟩ b4) g t #[b0, b1, b2, b3, b4] :=
 ((((h.set 0 b0).set 1 b1).set 2 b2).set 3 b3).set 4 b4
theorem bel5 {B : Nat} {a w : World} {g : Nat} (h : Below B a w) (hg : B ≤ g) (b0 b1 b2 b3 b4 : Value) : Below B a (((((w.setCell ⟨g, 0, none⟩ b0).setCell ⟨g, 1, none⟩ b1).setCell ⟨g, 2, none⟩ b2).setCell ⟨g, 3, none⟩ b3).setCell ⟨g, 4, none⟩ b4) :=
 ((((h.setCell (p := ⟨g, 0, none⟩) hg b0).setCell (p := ⟨g, 1, none⟩) hg b1).setCell (p := ⟨g, 2, none⟩) hg b2).setCell (p := ⟨g, 3, none⟩) hg b3).setCell (p := ⟨g, 4, none⟩) hg b4
theorem ret_come {W : World} {tmps : Array Value} {r : Nat} {c0 c1 c2 c3 c4 : Value} {R : Ending → World → Prop} (h6 : tmps.getD 6 undef = .pointer (some ⟨r, 0, none⟩))
  (h : Blk W r 197 #[c0, c1, c2, c3, c4]) (hR : R (.returned (.agg #[c0, c1, c2, c3, c4])) W) :
  bodyPost Tryz.prog Tryz.f121 R .ret { tmps := tmps, defers := [] } W :=
 bodyPost_ret (results_cell1 Tryz.results121 h6 (run_loadVar_row _ r 197 197 _ (0, 0) _ h Tryz.underlying197 (by rfl) (by kernel_rfl))) rfl hR
abbrev CameF (s k : Nat) (e : Bool) (w : World) : Prop := Calls Tryz.prog 121 #[.int .i64 (s : Int), .int .i64 (k : Int), .bool e] w fun r w' => r = .returned (mvV (comeF s k e)) ∧ Below w.heap.size w w'
theorem come_0_1_false (w : World) : CameF 0 1 false w := by
 have hA : Blk (w.alloc (.cells #[.int .i64 0, .bool false, .bool false, .int .i64 0, .bool false] 197)) w.heap.size 197 #[.int .i64 0, .bool false, .bool false, .int .i64 0, .bool false] := Blk.new w _ _;have hb1 : Below w.heap.size w (w.alloc (.cells #[.int .i64 0, .bool false, .bool false, .int .i64 0, .bool false] 197)) := (Below.refl _ _).alloc (Nat.le_refl _) _;have hCol : ∀ w : World, Calls Tryz.prog 139 #[.int .i64 1] w fun e w' => e = .returned (.tuple #[.int .i64 1, .bool true]) ∧ w' = w := fun w => Column_any 1 (by decide) w
 have hOn : ∀ w : World, Calls Tryz.prog 141 #[.int .i64 0, .bool false] w fun e w' => e = .returned (.int .i64 1) ∧ w' = w := fun w => Onward_any 0 (by decide) false w
 have hCode : ∀ w : World, Calls Tryz.prog 142 #[.int .i64 0, .int .i64 2] w fun e w' => e = .returned (.int .i64 1) ∧ w' = w := fun w => Code_any 0 2 w
 go_enter Tryz.func121, Tryz.ntmps121
 go_wp2_with first
  | (go_at_call 139;(with_reducible refine (hCol _).mono ?_);rintro e w1 ⟨rfl, rfl⟩)
  | (go_at_call 140;(with_reducible refine (Rows_any _).mono ?_);rintro e w2 ⟨rfl, hb2⟩;have hA2 := hA.on hb2;have hb12 := hb1.trans (hb2.mono (by simp));have hz2 := hb2.size;have h0 := heap_alloc_new w2 (.cells zero35 226))
  | (refine wpList_store_row rfl _ _ _ rfl w2.heap.size rowsC rfl rfl 226 _ h0 (by kernel_rfl) (by kernel_rfl) (by kernel_rfl) ?_;obtain ⟨W3, eW3⟩ : ∃ W3, W3 = (w2.alloc (.cells zero35 226)).setRow w2.heap.size rowsC := ⟨_, rfl⟩;rw [← eW3];have hb3 : Below w2.heap.size w2 W3 := (by rw [eW3];exact row_below _ _ _ _);have hs3 : W3.heap[w2.heap.size]? = some (.cells rowsC 226 (0, 0)) := (by rw [eW3];exact setRow_heap _ _ _ _ _ _ h0);have hA3 := hA2.on hb3;have c14 : W3.cell? ⟨w2.heap.size, 1, none⟩ = some (.int .i64 2) := (cell_of_row _ _ _ _ _ _ hs3).trans (by kernel_rfl);have hb13 := hb12.trans (hb3.mono (by simp at hz2;omega));have v0 := hA3.free 0;have v1 := hA3.free 1;have v2 := hA3.free 2;have v3 := hA3.free 3;have v4 := hA3.free 4;have u0 : W3.cell? ⟨w.heap.size, 0, none⟩ = some (.int .i64 0) := hA3.cell 0;have u1 : W3.cell? ⟨w.heap.size, 1, none⟩ = some (.bool false) := hA3.cell 1;have u2 : W3.cell? ⟨w.heap.size, 2, none⟩ = some (.bool false) := hA3.cell 2;have u3 : W3.cell? ⟨w.heap.size, 3, none⟩ = some (.int .i64 0) := hA3.cell 3;have u4 : W3.cell? ⟨w.heap.size, 4, none⟩ = some (.bool false) := hA3.cell 4;clear eW3 h0 hs3)
  | (go_at_call 141;(with_reducible refine (hOn _).mono ?_);rintro e w1 ⟨rfl, rfl⟩)
  | (go_at_call 142;(with_reducible refine (hCode _).mono ?_);rintro e w1 ⟨rfl, rfl⟩)
 refine ret_come rfl (put5 hA3 _ _ _ _ _) ⟨rfl, bel5 hb13 (Nat.le_refl _) _ _ _ _ _⟩
theorem come_0_1_true (w : World) : CameF 0 1 true w := by
 have hA : Blk (w.alloc (.cells #[.int .i64 0, .bool false, .bool false, .int .i64 0, .bool false] 197)) w.heap.size 197 #[.int .i64 0, .bool false, .bool false, .int .i64 0, .bool false] := Blk.new w _ _;have hb1 : Below w.heap.size w (w.alloc (.cells #[.int .i64 0, .bool false, .bool false, .int .i64 0, .bool false] 197)) := (Below.refl _ _).alloc (Nat.le_refl _) _;have hCol : ∀ w : World, Calls Tryz.prog 139 #[.int .i64 1] w fun e w' => e = .returned (.tuple #[.int .i64 1, .bool true]) ∧ w' = w := fun w => Column_any 1 (by decide) w
 have hOn : ∀ w : World, Calls Tryz.prog 141 #[.int .i64 0, .bool true] w fun e w' => e = .returned (.int .i64 2) ∧ w' = w := fun w => Onward_any 0 (by decide) true w
 have hCode : ∀ w : World, Calls Tryz.prog 142 #[.int .i64 0, .int .i64 2] w fun e w' => e = .returned (.int .i64 1) ∧ w' = w := fun w => Code_any 0 2 w
 go_enter Tryz.func121, Tryz.ntmps121
 go_wp2_with first
  | (go_at_call 139;(with_reducible refine (hCol _).mono ?_);rintro e w1 ⟨rfl, rfl⟩)
  | (go_at_call 140;(with_reducible refine (Rows_any _).mono ?_);rintro e w2 ⟨rfl, hb2⟩;have hA2 := hA.on hb2;have hb12 := hb1.trans (hb2.mono (by simp));have hz2 := hb2.size;have h0 := heap_alloc_new w2 (.cells zero35 226))
  | (refine wpList_store_row rfl _ _ _ rfl w2.heap.size rowsC rfl rfl 226 _ h0 (by kernel_rfl) (by kernel_rfl) (by kernel_rfl) ?_;obtain ⟨W3, eW3⟩ : ∃ W3, W3 = (w2.alloc (.cells zero35 226)).setRow w2.heap.size rowsC := ⟨_, rfl⟩;rw [← eW3];have hb3 : Below w2.heap.size w2 W3 := (by rw [eW3];exact row_below _ _ _ _);have hs3 : W3.heap[w2.heap.size]? = some (.cells rowsC 226 (0, 0)) := (by rw [eW3];exact setRow_heap _ _ _ _ _ _ h0);have hA3 := hA2.on hb3;have c14 : W3.cell? ⟨w2.heap.size, 1, none⟩ = some (.int .i64 2) := (cell_of_row _ _ _ _ _ _ hs3).trans (by kernel_rfl);have hb13 := hb12.trans (hb3.mono (by simp at hz2;omega));have v0 := hA3.free 0;have v1 := hA3.free 1;have v2 := hA3.free 2;have v3 := hA3.free 3;have v4 := hA3.free 4;have u0 : W3.cell? ⟨w.heap.size, 0, none⟩ = some (.int .i64 0) := hA3.cell 0;have u1 : W3.cell? ⟨w.heap.size, 1, none⟩ = some (.bool false) := hA3.cell 1;have u2 : W3.cell? ⟨w.heap.size, 2, none⟩ = some (.bool false) := hA3.cell 2;have u3 : W3.cell? ⟨w.heap.size, 3, none⟩ = some (.int .i64 0) := hA3.cell 3;have u4 : W3.cell? ⟨w.heap.size, 4, none⟩ = some (.bool false) := hA3.cell 4;clear eW3 h0 hs3)
  | (go_at_call 141;(with_reducible refine (hOn _).mono ?_);rintro e w1 ⟨rfl, rfl⟩)
  | (go_at_call 142;(with_reducible refine (hCode _).mono ?_);rintro e w1 ⟨rfl, rfl⟩)
 refine ret_come rfl (put5 hA3 _ _ _ _ _) ⟨rfl, bel5 hb13 (Nat.le_refl _) _ _ _ _ _⟩
theorem come_2_8_false (w : World) : CameF 2 8 false w := by
 have hA : Blk (w.alloc (.cells #[.int .i64 0, .bool false, .bool false, .int .i64 0, .bool false] 197)) w.heap.size 197 #[.int .i64 0, .bool false, .bool false, .int .i64 0, .bool false] := Blk.new w _ _;have hb1 : Below w.heap.size w (w.alloc (.cells #[.int .i64 0, .bool false, .bool false, .int .i64 0, .bool false] 197)) := (Below.refl _ _).alloc (Nat.le_refl _) _;have hCol : ∀ w : World, Calls Tryz.prog 139 #[.int .i64 8] w fun e w' => e = .returned (.tuple #[.int .i64 3, .bool true]) ∧ w' = w := fun w => Column_any 8 (by decide) w
 have hOn : ∀ w : World, Calls Tryz.prog 141 #[.int .i64 2, .bool false] w fun e w' => e = .returned (.int .i64 2) ∧ w' = w := fun w => Onward_any 2 (by decide) false w
 have hCode : ∀ w : World, Calls Tryz.prog 142 #[.int .i64 2, .int .i64 1] w fun e w' => e = .returned (.int .i64 5) ∧ w' = w := fun w => Code_any 2 1 w
 go_enter Tryz.func121, Tryz.ntmps121
 go_wp2_with first
  | (go_at_call 139;(with_reducible refine (hCol _).mono ?_);rintro e w1 ⟨rfl, rfl⟩)
  | (go_at_call 140;(with_reducible refine (Rows_any _).mono ?_);rintro e w2 ⟨rfl, hb2⟩;have hA2 := hA.on hb2;have hb12 := hb1.trans (hb2.mono (by simp));have hz2 := hb2.size;have h0 := heap_alloc_new w2 (.cells zero35 226))
  | (refine wpList_store_row rfl _ _ _ rfl w2.heap.size rowsC rfl rfl 226 _ h0 (by kernel_rfl) (by kernel_rfl) (by kernel_rfl) ?_;obtain ⟨W3, eW3⟩ : ∃ W3, W3 = (w2.alloc (.cells zero35 226)).setRow w2.heap.size rowsC := ⟨_, rfl⟩;rw [← eW3];have hb3 : Below w2.heap.size w2 W3 := (by rw [eW3];exact row_below _ _ _ _);have hs3 : W3.heap[w2.heap.size]? = some (.cells rowsC 226 (0, 0)) := (by rw [eW3];exact setRow_heap _ _ _ _ _ _ h0);have hA3 := hA2.on hb3;have c14 : W3.cell? ⟨w2.heap.size, 13, none⟩ = some (.int .i64 1) := (cell_of_row _ _ _ _ _ _ hs3).trans (by kernel_rfl);have hb13 := hb12.trans (hb3.mono (by simp at hz2;omega));have v0 := hA3.free 0;have v1 := hA3.free 1;have v2 := hA3.free 2;have v3 := hA3.free 3;have v4 := hA3.free 4;have u0 : W3.cell? ⟨w.heap.size, 0, none⟩ = some (.int .i64 0) := hA3.cell 0;have u1 : W3.cell? ⟨w.heap.size, 1, none⟩ = some (.bool false) := hA3.cell 1;have u2 : W3.cell? ⟨w.heap.size, 2, none⟩ = some (.bool false) := hA3.cell 2;have u3 : W3.cell? ⟨w.heap.size, 3, none⟩ = some (.int .i64 0) := hA3.cell 3;have u4 : W3.cell? ⟨w.heap.size, 4, none⟩ = some (.bool false) := hA3.cell 4;clear eW3 h0 hs3)
  | (go_at_call 141;(with_reducible refine (hOn _).mono ?_);rintro e w1 ⟨rfl, rfl⟩)
  | (go_at_call 142;(with_reducible refine (hCode _).mono ?_);rintro e w1 ⟨rfl, rfl⟩)
 refine ret_come rfl (put5 hA3 _ _ _ _ _) ⟨rfl, bel5 hb13 (Nat.le_refl _) _ _ _ _ _⟩
theorem come_4_8_false (w : World) : CameF 4 8 false w := by
 have hA : Blk (w.alloc (.cells #[.int .i64 0, .bool false, .bool false, .int .i64 0, .bool false] 197)) w.heap.size 197 #[.int .i64 0, .bool false, .bool false, .int .i64 0, .bool false] := Blk.new w _ _;have hb1 : Below w.heap.size w (w.alloc (.cells #[.int .i64 0, .bool false, .bool false, .int .i64 0, .bool false] 197)) := (Below.refl _ _).alloc (Nat.le_refl _) _;have hCol : ∀ w : World, Calls Tryz.prog 139 #[.int .i64 8] w fun e w' => e = .returned (.tuple #[.int .i64 3, .bool true]) ∧ w' = w := fun w => Column_any 8 (by decide) w
 have hOn : ∀ w : World, Calls Tryz.prog 141 #[.int .i64 4, .bool false] w fun e w' => e = .returned (.int .i64 4) ∧ w' = w := fun w => Onward_any 4 (by decide) false w
 have hCode : ∀ w : World, Calls Tryz.prog 142 #[.int .i64 4, .int .i64 0] w fun e w' => e = .returned (.int .i64 5) ∧ w' = w := fun w => Code_any 4 0 w
 go_enter Tryz.func121, Tryz.ntmps121
 go_wp2_with first
  | (go_at_call 139;(with_reducible refine (hCol _).mono ?_);rintro e w1 ⟨rfl, rfl⟩)
  | (go_at_call 140;(with_reducible refine (Rows_any _).mono ?_);rintro e w2 ⟨rfl, hb2⟩;have hA2 := hA.on hb2;have hb12 := hb1.trans (hb2.mono (by simp));have hz2 := hb2.size;have h0 := heap_alloc_new w2 (.cells zero35 226))
  | (refine wpList_store_row rfl _ _ _ rfl w2.heap.size rowsC rfl rfl 226 _ h0 (by kernel_rfl) (by kernel_rfl) (by kernel_rfl) ?_;obtain ⟨W3, eW3⟩ : ∃ W3, W3 = (w2.alloc (.cells zero35 226)).setRow w2.heap.size rowsC := ⟨_, rfl⟩;rw [← eW3];have hb3 : Below w2.heap.size w2 W3 := (by rw [eW3];exact row_below _ _ _ _);have hs3 : W3.heap[w2.heap.size]? = some (.cells rowsC 226 (0, 0)) := (by rw [eW3];exact setRow_heap _ _ _ _ _ _ h0);have hA3 := hA2.on hb3;have c14 : W3.cell? ⟨w2.heap.size, 23, none⟩ = some (.int .i64 0) := (cell_of_row _ _ _ _ _ _ hs3).trans (by kernel_rfl);have hb13 := hb12.trans (hb3.mono (by simp at hz2;omega));have v0 := hA3.free 0;have v1 := hA3.free 1;have v2 := hA3.free 2;have v3 := hA3.free 3;have v4 := hA3.free 4;have u0 : W3.cell? ⟨w.heap.size, 0, none⟩ = some (.int .i64 0) := hA3.cell 0;have u1 : W3.cell? ⟨w.heap.size, 1, none⟩ = some (.bool false) := hA3.cell 1;have u2 : W3.cell? ⟨w.heap.size, 2, none⟩ = some (.bool false) := hA3.cell 2;have u3 : W3.cell? ⟨w.heap.size, 3, none⟩ = some (.int .i64 0) := hA3.cell 3;have u4 : W3.cell? ⟨w.heap.size, 4, none⟩ = some (.bool false) := hA3.cell 4;clear eW3 h0 hs3)
  | (go_at_call 141;(with_reducible refine (hOn _).mono ?_);rintro e w1 ⟨rfl, rfl⟩)
  | (go_at_call 142;(with_reducible refine (hCode _).mono ?_);rintro e w1 ⟨rfl, rfl⟩)
 refine ret_come rfl (put5 hA3 _ _ _ _ _) ⟨rfl, bel5 hb13 (Nat.le_refl _) _ _ _ _ _⟩
end Go.Proofs.YtcodgfmombehoaaGreatDoor
