/- Parts of the proof of bk_root: the texts Cng1 Cnd3 Cng4 Cng5. -/
import Derived.Test.YtcodgfmombehoaaGreatDoorK36
set_option linter.unusedSimpArgs false
set_option linter.unusedVariables false
set_option linter.unnecessarySimpa false
set_option maxRecDepth 100000
set_option maxHeartbeats 64000000
namespace Go.Dr
open Go Go.RowKit
theorem run_apStr_new {P : Program} (w : World) (base : Nat) (t u ty e : TypeId) (i : TypeInfo) (ht : P.underlying t = some (.slice e)) (hu : P.underlying u = some .string) (hi : P.info? e = some i) (hz : i.zero = some (.int .u8 0)) (hsize : i.size = 1) (hby : i.bytes = 1)
  (v : Value) (n : Nat) (xs : List Value) (hown : w.ownsRow base e 1 v n xs) (s : ByteArray) (h63 : n + s.size ≤ maxLen) (hbytes : n + s.size ≤ 140737488355328) (hbase : base ≤ w.heap.size) :
  ∃ v' w', (Builtin.append_ #[t, u] ty #[v, .string s]).run P w = .ok v' w' ∧ w'.ownsRow base e 1 v' (n + s.size) (xs ++ Go.Lib.strCells s) ∧ w.grownBy w' v.ownBlock ∧ ∀ g, some g = v'.ownBlock → some g = v.ownBlock ∨ w.heap.size ≤ g := by
 obtain ⟨v', w', hr, h2, h3, h4⟩ := Go.Lib.run_append_own_string (P := P) w base t u ty e i ht hu hi hz hsize hby v n xs hown s h63 hbytes hbase;refine ⟨v', w', hr, h2, h3, ?_⟩;have hxl : xs.length = n := (by simpa using hown.1)
 rcases hown.2 with ⟨rfl, rfl⟩ | ⟨g, cap, cur, rfl, hbg, hg, hnc, hcm, hcs, htake⟩
 ·obtain ⟨v2, w2, hr2, k2, k3, k4⟩ := Go.Lib.run_append_own_string (P := P) w w.heap.size t u ty e i ht hu hi hz hsize hby (.slice none 0 0) 0 xs ⟨hown.1, .inl ⟨rfl, rfl⟩⟩ s h63 hbytes (Nat.le_refl _)
  rw [hr] at hr2
  injection hr2 with e1 e2
  subst e1;subst e2;exact fun g hg => .inr (k2.lt g hg.symm).1
 ·by_cases hroom : n + s.size ≤ cap
  ·have hcs' : cur.size = cap := by simpa using hcs
   have hr2 := Go.Lib.run_append_room_string (P := P) w t u ty e i ht hu hi hsize g n cap cur hg s hroom (by omega);rw [hr] at hr2
   injection hr2 with e1 e2
   subst e1;exact fun g' hg' => .inl hg'
  ·have holds : ∀ j u, xs[j]? = some u → w.cell? ((⟨g, 0, none⟩ : Addr).add j) = some u := hown.cells (g := g) rfl
   have hsm : n + s.size ≤ 9223372036854775807 := (by simp only [maxLen] at h63;omega);have hr2 := Go.Lib.run_append_grow_string (P := P) w t u ty e i (.int .u8 0) ht hu hi hz ⟨g, 0, none⟩ n cap xs (by rw [hsize];simpa using hxl) holds s (by omega) (by omega) (by rw [hby];exact growslice_fits (by omega) (by omega));rw [hr] at hr2
   injection hr2 with e1 e2
   subst e1;exact fun g' hg' => .inr (by cases hg';exact Nat.le_refl _)
theorem wp_apStrX {P : Program} {o : Oper} {a : Act} {K : Act → World → Prop} {Q : Exit → Act → World → Prop} {w : World} (s x : Operand) (t u : TypeId)
  (ho : o.op = .call { callee := .builtin .append, args := #[s, x], argTypes := #[t, u] })
  (base : Nat) (e : TypeId) (ht : P.underlying t = some (.slice e)) (hu : P.underlying u = some .string) (hi : (P.info? e).map (fun i => (i.zero, i.size, i.bytes)) = some (some (.int .u8 0), 1, 1))
  (v : Value) (n : Nat) (xs : List Value) (hs : a.eval s = v) (hown : w.ownsRow base e 1 v n xs) (l : Bytes) (hx : a.eval x = .string ⟨l.toArray⟩)
  (hm : n + l.length ≤ 140737488355328) (hbase : base ≤ w.heap.size)
  (h : ∀ a' c' w', w'.ownsRow base e 1 (.slice a' (n + l.length) c') (n + l.length) (xs ++ Go.Lib.strCells ⟨l.toArray⟩) → w.grownBy w' v.ownBlock → (∀ g, some g = (Value.slice a' (n + l.length) c').ownBlock → some g = v.ownBlock ∨ w.heap.size ≤ g) → K (a.put o.dst (.slice a' (n + l.length) c')) w') : Oper.wp P o a w K Q := by
 obtain ⟨i, hi, hz, hsize, hby⟩ := info_parts hi;obtain ⟨v', w', hr, h2, h3, h4⟩ := run_apStr_new (P := P) w base t u o.type e i ht hu hi hz hsize hby v n xs hown ⟨l.toArray⟩ (by unfold maxLen;show n + l.length ≤ _;omega) hm hbase;unfold Oper.wp execOp;simp only [ho, resolve, invoke, builtin, Sem.run_bind, Sem.run_pure, Result.andThen_ok, List.map_toArray, List.map_cons, List.map_nil, hs, hx, hr]
 obtain ⟨a', c', rfl⟩ : ∃ a' c', v' = .slice a' (n + l.length) c' := by
  rcases h2.2 with ⟨rfl, h0⟩ | ⟨g, cap, cur, rfl, _⟩
  ·exact ⟨none, 0, by rw [show n + l.length = 0 from h0]⟩
  ·exact ⟨_, _, rfl⟩
 exact h a' c' w' h2 h3 h4
end Go.Dr
namespace Go.Proofs.YtcodgfmombehoaaGreatDoor
open Go Go.RowKit Go.Dr
variable {w w' : World} {n : Nm} {m : Mm} {q q' : Cq}
theorem Cx.goesP {i : Int} {s : Sp} (hx : Cx w n m q) (hq : q.live = [(i, s)]) (s' : Sp) (v : Value) (hb : But (fun g => g = m.sb i ∨ some g = (m.sv i).ownBlock) w w') (hs : Blk w' (m.sb i) 101 (s'.cells v)) (hp : w'.ownsRow n.B 5 1 v s'.pend.length (s'.pend.map B8)) (hnew : ∀ g, some g = v.ownBlock → some g = (m.sv i).ownBlock ∨ w.heap.size ≤ g) :
  Cx w' n { m with sv := fun _ => v } { q with live := [(i, s')] } ∧ GoesF w n (Foot n m q) w' { q with live := [(i, s')] } (Foot n { m with sv := fun _ => v } { q with live := [(i, s')] }) := by
 obtain ⟨-, -, -, -, -, -, -, -, -, -, -, -, -, -, kbv, knv, kcv, ksd⟩ := hx.kinds;have hi : (i, s) ∈ q.live := (by rw [hq];simp)
 have hX : Cx w' n { m with sv := fun _ => v } { q with live := [(i, s')] } := hx.upS hb (fun g hg => by
   rcases hg with rfl | hg
   ·exact .inl (ksd _ hi).1
   ·exact .inr ((ksd _ hi).2 g hg)) { m with sv := fun _ => v } [(i, s')] rfl (by rw [hq];rfl)
  (fun g hg h => by
   rcases h with rfl | h
   ·have h1 := kbv _ hg
    have h2 : kd w (m.sb i) = _ := (ksd _ hi).1;omega
   ·exact hx.bp _ hi g h hg)
  (fun p hp' => by
   obtain rfl := List.mem_singleton.1 hp'
   exact hs)
  (fun p hp' => by
   obtain rfl := List.mem_singleton.1 hp'
   exact hp)
  (fun p hp' g hg e => by
   obtain rfl := List.mem_singleton.1 hp'
   rcases hnew g hg with h | h
   ·exact hx.bp _ hi g h e
   ·have := (own_lt hx.bytes e).2
    omega)
  (fun p hp' p1 hp1 hne => by
   obtain rfl := List.mem_singleton.1 hp';obtain rfl := List.mem_singleton.1 hp1
   exact absurd rfl hne)
 refine ⟨hX, hX.goesF (hb.more fun g hg => ?_) fun g hg => ?_⟩
 ·rcases hg with rfl | hg
  ·exact Foot.side hi
  ·exact .inr (.inr (.inr ⟨_, hi, .inr hg⟩))
 ·rcases hg with hg | hg | hg | ⟨p, hp', hg⟩
  ·exact .inl (.inl hg)
  ·exact .inl (.inr (.inl hg))
  ·exact .inl (.inr (.inr (.inl hg)))
  ·obtain rfl := List.mem_singleton.1 hp'
   rcases hg with rfl | hg
   ·exact .inl (show Foot n m q (m.sb i) from Foot.side hi)
   ·rcases hnew g hg with h | h
    ·exact .inl (.inr (.inr (.inr ⟨_, hi, .inr h⟩)))
    ·exact .inr h
theorem over_live (q : Cq) {i : Int} {s : Sp} {a c : List (Int × Sp)} (hq : q.live = a ++ (i, s) :: c) : ({ q with over := q.over || (q.drained && q.live.isEmpty) } : Cq) = q := by
 cases q
 simp only [] at hq;simp [hq]
theorem live_same (q : Cq) {i : Int} {s : Sp} {a c : List (Int × Sp)} (hq : q.live = a ++ (i, s) :: c) (h2 : s.st = 2) : ({ q with live := a ++ (i, { s with st := 2 }) :: c } : Cq) = q := by
 cases q
 cases s
 simp only [] at hq h2;subst h2;rw [hq]
theorem Went_on {F : Nat → Prop} (w : World) (h : Cw w n q F) (i k : Int) (hk : k = 0 ∨ k = 1) (hi : I64 i) {a c : List (Int × Sp)} {s : Sp} (hq : q.live = a ++ (i, s) :: c) (h2 : s.st = 2) : Calls Tryz.prog 33 #[Ptr n.c, .int .i64 i, .int .i64 k, .bool false] w fun e w' => e = .returned (.tuple #[]) ∧ Goes w n F w' q := by
 have hT := Turn_live w h i hi 2 (.inr (.inl rfl)) hq;rw [live_same q hq h2] at hT;obtain ⟨m, hx, rfl⟩ := h;have hs : (i, s) ∈ q.live := (by rw [hq];simp);have y9 : w.cell? ⟨n.c, 9, none⟩ = some (.map (some n.lm)) := hx.blk.cell 9;have hl := (hx.live.inn hi (List.mem_map.2 ⟨_, hs, rfl⟩)).2;have y6 : w.cell? ⟨m.sb i, 6, none⟩ = some (.int .i64 2) := (by rw [← h2];exact (hx.side _ hs).cell 6);have hG := Go_on w 2 k (.inr rfl) hk;have g0 := GoesF.refl (F := Foot n m q) ⟨m, hx, rfl⟩;clear h2;go_enter Tryz.func33, Tryz.ntmps33
 go_wp2_with first
  | (go_at_call 66;(with_reducible refine hG.mono ?_);rintro e w2 ⟨rfl, rfl⟩)
  | (go_at_call 67;(with_reducible refine hT.mono ?_);rintro e w3 ⟨rfl, hg3⟩;obtain ⟨F3, k3⟩ := g0.step hg3;have hR := Rest_any w3 k3.h)
  | (go_at_call 54;(with_reducible refine hR.mono ?_);rintro e w4 ⟨rfl, hg4⟩;obtain ⟨F4, k4⟩ := k3.step hg4)
 go_end0
 rw [over_live q hq] at k4;exact ⟨rfl, k4.goes⟩
open Go Go.RowKit Go.Dr
variable {w w' : World} {n : Nm} {m : Mm} {q q' : Cq}
theorem Answering_out (w : World) (hx : Cx w n m q) (i : Int) (hi : I64 i) (ho : ∀ p ∈ q.live, p.1 ≠ i) : Calls Tryz.prog 30 #[Ptr n.c, .int .i64 i] w fun r w' => r = .returned (.tuple #[.pointer none, .bool false]) ∧ Below w.heap.size w w' := by
 have y9 : w.cell? ⟨n.c, 9, none⟩ = some (.map (some n.lm)) := hx.blk.cell 9;have hk := (hx.live.out hi (fun p hp => by obtain ⟨p', hp', rfl⟩ := List.mem_map.1 hp;exact ho p' hp')).1;go_enter Tryz.func30, Tryz.ntmps30
 go_wp2
 go_region
 all_goals go_wp2
 all_goals go_ret2
 all_goals exact ⟨rfl, (Below.refl _ _).drew⟩
end Go.Proofs.YtcodgfmombehoaaGreatDoor
namespace Go.Dr
open Go Go.RowKit
theorem wpList_apStrX {P : Program} {ops : Array Oper} {rest : List Oper} {o : Oper} {a : Act} {Q : Exit → Act → World → Prop} {w : World} (hgd : o.guard = none) (s x : Operand) (t u : TypeId)
  (ho : o.op = .call { callee := .builtin .append, args := #[s, x], argTypes := #[t, u] })
  (base : Nat) (e : TypeId) (ht : P.underlying t = some (.slice e)) (hu : P.underlying u = some .string) (hi : (P.info? e).map (fun i => (i.zero, i.size, i.bytes)) = some (some (.int .u8 0), 1, 1))
  (v : Value) (n : Nat) (xs : List Value) (hs : a.eval s = v) (hown : w.ownsRow base e 1 v n xs) (l : Bytes) (hx : a.eval x = .string ⟨l.toArray⟩)
  (hm : n + l.length ≤ 140737488355328) (hbase : base ≤ w.heap.size)
  (h : ∀ a' c' w', w'.ownsRow base e 1 (.slice a' (n + l.length) c') (n + l.length) (xs ++ Go.Lib.strCells ⟨l.toArray⟩) → w.grownBy w' v.ownBlock → (∀ g, some g = (Value.slice a' (n + l.length) c').ownBlock → some g = v.ownBlock ∨ w.heap.size ≤ g) → wpList P ops Q rest (a.put o.dst (.slice a' (n + l.length) c')) w') : wpList P ops Q (o :: rest) a w := by
 refine wpList_plain hgd fun K hK => ?_
 exact wp_apStrX s x t u ho base e ht hu hi v n xs hs hown l hx hm hbase fun a' c' w' h1 h2 h3 => hK _ _ (h a' c' w' h1 h2 h3)
end Go.Dr
namespace Go.Proofs.YtcodgfmombehoaaGreatDoor
open Go Go.RowKit Go.Dr
variable {w w' : World} {n : Nm} {m : Mm} {q q' : Cq}
theorem Send_one {F : Nat → Prop} (w : World) (h : Cw w n q F) (i : Int) (hi : I64 i) {s : Sp} (hq : q.live = [(i, s)]) (hst : s.st = 2) (hhd : s.headed = true) (hen : s.ends = false) (hpe : s.pend = []) (l : Bytes) (hl : l.length ≤ 60000) :
  Calls Tryz.prog 11 #[Ptr n.c, .int .i64 i, S l, .bool true] w fun r w' => r = .returned (.int .i64 0) ∧ Goes w n F w' { q with live := [(i, { s with pend := l, ends := true })] } := by
 have g0 := GoesF.refl h;obtain ⟨m, hx, rfl⟩ := h;have hm : (i, s) ∈ q.live := (by rw [hq];simp);have hAn := Answering_2 w hx i hi hm hst;have hp := hx.pend _ hm;rw [hpe] at hp;obtain ⟨va, vc, ev⟩ := own_form hp;have ev : m.sv i = .slice va 0 vc := ev;have t1 : decide ((65536 : Int) < (l.length : Int)) = false := (by simp;omega);have t1' : decide (65536 < l.length) = false := (by simp;omega)
 go_enter Tryz.func11, Tryz.ntmps11
 go_upto_region 2 with (go_at_call 30;go_must ((with_reducible refine hAn.mono ?_);rintro r w1 ⟨rfl, hb1⟩))
 have hx1 := hx.on hb1;have hS := hx1.side _ hm;have hp1 := hx1.pend _ hm;have hp1 : w1.ownsRow n.B 5 1 (.slice va 0 vc) 0 [] := (by rw [hpe] at hp1;rw [← ev];exact hp1);have y3 : w1.cell? ⟨m.sb i, 3, none⟩ = some (.bool true) := (by rw [← hhd];exact hS.cell 3);have y4 : w1.cell? ⟨m.sb i, 4, none⟩ = some (.slice va 0 vc) := (by rw [← ev];exact hS.cell 4);have y5 : w1.cell? ⟨m.sb i, 5, none⟩ = some (.bool false) := (by rw [← hen];exact hS.cell 5);have hnB : n.B ≤ w1.heap.size := Nat.le_trans (hx1.lo _ (Foot.c n m q)) (Nat.le_of_lt hx1.blk.lt);obtain ⟨-, -, -, -, -, -, -, -, -, -, -, -, -, -, kbv, knv, kcv, ksd⟩ := hx1.kinds;have k1 : kd w1 (m.sb i) = 101 + 1 := (ksd _ hm).1;have k2 : ∀ g, some g = (m.sv i).ownBlock → kd w1 g = 5 + 1 := (ksd _ hm).2;have hsl : m.sb i < w1.heap.size := hS.lt;go_upto_region 8 with fail;go_wp2_with (at_builtin;refine wpList_apStrX rfl _ _ 39 9 rfl n.B 5 Tryz.underlying39 Tryz.underlying9 (by kernel_rfl) _ _ _ rfl hp1 l rfl (by omega) hnB ?_;intro a2 c2 w2 hown2 hg2 hnew2;have hb2 := but_grow hg2;have hS2 := hS.but hb2 (fun e => by have := k2 (m.sb i) (by rw [ev];exact e);omega);have f4 := hS2.free 4;have f5 := hS2.free 5;have v4 := hS2.cell 4;have v5 := hS2.cell 5)
 go_ret;refine ⟨rfl, ?_⟩;rw [Nat.zero_add, List.nil_append] at hown2;rw [Nat.zero_add] at hnew2;obtain ⟨v2, ev2⟩ : ∃ v2 : Value, v2 = .slice a2 l.length c2 := ⟨_, rfl⟩;rw [← ev2] at hown2 hnew2 ⊢;have hown2 : w2.ownsRow n.B 5 1 v2 l.length (l.map B8) := (by rw [← strCells_b8];exact hown2)
 have hne : ∀ g, some g = v2.ownBlock → g ≠ m.sb i := fun g hg e => by
  rcases hnew2 g hg with h | h
  ·have := k2 g (by rw [ev];exact h)
   rw [e] at this;omega
  ·omega
 have hu : But (fun g => g = m.sb i ∨ some g = (m.sv i).ownBlock) w1 ((w2.setCell ⟨m.sb i, 4, none⟩ v2).setCell ⟨m.sb i, 5, none⟩ (.bool true)) := ((hb2.more (fun g hg => .inr (by rw [ev];exact hg))).setCell (p := ⟨m.sb i, 4, none⟩) (.inl (.inl rfl)) _).setCell (p := ⟨m.sb i, 5, none⟩) (.inl (.inl rfl)) _
 have hr2 := own_same (w' := (w2.setCell ⟨m.sb i, 4, none⟩ v2).setCell ⟨m.sb i, 5, none⟩ (.bool true)) hown2 (fun g hg => by
  rw [Below.heap_setCell _ _ _ _ (hne g hg), Below.heap_setCell _ _ _ _ (hne g hg)])
 obtain ⟨hX, k⟩ := hx1.goesP hq { s with pend := l, ends := true } v2 hu ((hS2.set 4 v2).set 5 (.bool true)) hr2 (fun g hg => by rw [ev];exact hnew2 g hg);exact ((g0.on hb1).comp k).goes
open Go Go.RowKit Go.Dr
variable {w w' : World} {n : Nm} {m : Mm} {q q' : Cq}
theorem BookAt_same {bk om : Nat} {all first i x : Int} {l : List (Int × Int)} (w : World) (hB : Blk w bk 132 #[.int .i64 all, .int .i64 first, .map (some om)]) (hm : IMp w om l) (hi : I64 i) (h1 : 1 ≤ i) (hx : (i, x) ∈ l) (hs : I64 (first + x)) :
  Calls Tryz.prog 69 #[Ptr bk, .int .i64 i] w fun e w' => e = .returned (.tuple #[.int .i64 (first + x), .bool true]) ∧ w' = w := by
 have y1 : w.cell? ⟨bk, 1, none⟩ = some (.int .i64 first) := hB.cell 1;have y2 : w.cell? ⟨bk, 2, none⟩ = some (.map (some om)) := hB.cell 2;have hk := (hm.innO hi hx).1;have hd : (i == 0) = false := (by simp;omega);have hw : IntKind.i64.wrap (first + x) = first + x := IntWalk.i64_in _ (by unfold I64 at hs;omega);go_enter Tryz.func69, Tryz.ntmps69
 go_wp2;go_ret2;exact ⟨rfl, rfl⟩
theorem BookRoom_same {bk om : Nat} {all first i x : Int} {l : List (Int × Int)} (w : World) (hB : Blk w bk 132 #[.int .i64 all, .int .i64 first, .map (some om)]) (hm : IMp w om l) (hi : I64 i) (h1 : 1 ≤ i) (hx : (i, x) ∈ l) (hs : I64 (first + x)) :
  Calls Tryz.prog 68 #[Ptr bk, .int .i64 i] w fun e w' => e = .returned (.int .i64 (max 0 (min (first + x) all))) ∧ w' = w := by
 have hA := BookAt_same w hB hm hi h1 hx hs;have hd : (i == 0) = false := (by simp;omega);go_enter Tryz.func68, Tryz.ntmps68
 go_wp2_with (go_at_call 69;go_must ((with_reducible refine hA.mono ?_);rintro e w1 ⟨rfl, e1⟩;subst e1;have y0 : w1.cell? ⟨bk, 0, none⟩ = some (.int .i64 all) := hB.cell 0))
 all_goals
  go_ret;have hv : ∀ r : Int, r = max 0 (min (first + x) all) → Ending.returned (.int .i64 r) = .returned (.int .i64 (max 0 (min (first + x) all))) := fun r h => by rw [h]
  refine ⟨hv _ ?_, rfl⟩;omega
theorem ite_min (x y : Int) : (if y < x then y else x) = min x y := by split <;> omega
theorem ite_max (x y : Int) : (if y > x then y else x) = max x y := by split <;> omega
theorem run_min4 {P : Program} (ts : Array TypeId) (t : TypeId) (a b c d : Int) (w : World) : (Builtin.min_ ts t #[.int .i64 a, .int .i64 b, .int .i64 c, .int .i64 d]).run P w = .ok (.int .i64 (min a (min b (min c d)))) w := by
 simp only [Builtin.min_, List.foldlM_cons, List.foldlM_nil, Builtin.min2, ite_min, Sem.run_bind, Sem.run_pure, Result.andThen_ok];rw [show min (min (min a b) c) d = min a (min b (min c d)) by omega]
theorem run_max2 {P : Program} (ts : Array TypeId) (t : TypeId) (a b : Int) (w : World) : (Builtin.max_ ts t #[.int .i64 a, .int .i64 b]).run P w = .ok (.int .i64 (max a b)) w := by
 simp only [Builtin.max_, List.foldlM_cons, List.foldlM_nil, Builtin.max2, ite_max, Sem.run_bind, Sem.run_pure, Result.andThen_ok]
theorem May_live (w : World) (hx : Cx w n m q) (i most : Int) (hi : I64 i) (h1 : 1 ≤ i) (hmo : 0 ≤ most) {s : Sp} (hm : (i, s) ∈ q.live) (hst : s.st = 2) (hhd : s.headed = true) (hen : s.ends = true) {x : Int} (ho : (i, x) ∈ q.off) (hs : I64 (q.first + x)) (hfr : q.frames = 16384) (N : Int) (hN : N = max 0 (min most (min (s.pend.length : Int) (min 16384 (max 0 (min (q.first + x) q.all)))))) (b : Bool) (hbb : b = (decide (0 < N) || s.pend.isEmpty)) :
  Calls Tryz.prog 34 #[Ptr n.c, .int .i64 i, .int .i64 most] w fun r w' => r = .returned (.tuple #[.int .i64 N, .bool b]) ∧ Below w.heap.size w w' := by
 have hAn := Answering_2 w hx i hi hm hst;obtain ⟨va, vc, ev⟩ := own_form (hx.pend _ hm);have ev : m.sv i = .slice va s.pend.length vc := ev;go_enter Tryz.func34, Tryz.ntmps34
 go_upto_region 2 with (go_at_call 30;go_must ((with_reducible refine hAn.mono ?_);rintro r w1 ⟨rfl, hb1⟩))
 have hx1 := hx.on hb1;have hS := hx1.side _ hm;have y3 : w1.cell? ⟨m.sb i, 3, none⟩ = some (.bool true) := (by rw [← hhd];exact hS.cell 3);have y4 : w1.cell? ⟨m.sb i, 4, none⟩ = some (.slice va s.pend.length vc) := (by rw [← ev];exact hS.cell 4);have y5 : w1.cell? ⟨m.sb i, 5, none⟩ = some (.bool true) := (by rw [← hen];exact hS.cell 5);have z7 : w1.cell? ⟨n.c, 7, none⟩ = some (Ptr n.bk) := hx1.blk.cell 7;have z8 : w1.cell? ⟨n.c, 8, none⟩ = some (.int .i64 16384) := (by rw [← hfr];exact hx1.blk.cell 8);have hRo := BookRoom_same w1.drew hx1.drew.book hx1.drew.off hi h1 ho hs;go_upto_region 4 with fail
 go_cut [10] (fun sx wx => sx = .int .i64 N ∧ Below w1.heap.size w1 wx)
 case first =>
  clear hbb;have hmin := fun W => run_min4 (P := Tryz.prog) #[3, 3, 3, 3] 3 most (s.pend.length : Int) 16384 (max 0 (min (q.first + x) q.all)) W
  have hmax := fun W => run_max2 (P := Tryz.prog) #[3, 3] 3 0 (min most (min (s.pend.length : Int) (min 16384 (max 0 (min (q.first + x) q.all))))) W
  rw [← hN] at hmax;clear hN
  go_region_held3 (fun W => W.cell? ⟨m.sb i, 4, none⟩ = some (.slice va s.pend.length vc) ∧ W.cell? ⟨n.c, 7, none⟩ = some (Ptr n.bk) ∧ W.cell? ⟨n.c, 8, none⟩ = some (.int .i64 16384))
   (first | go_keep)
   ((go_at_call 68;go_must ((with_reducible refine hRo.mono ?_);rintro r w2 ⟨rfl, e2⟩;have e3 := e2.symm;subst e3)))
  all_goals (
   go_wp2;go_meet
   exact ⟨rfl, (Below.refl _ _).drew⟩)
 case rest =>
  obtain ⟨rfl, hb2⟩ := hcut;have hx2 := hx1.on hb2;have hS2 := hx2.side _ hm;have y4 : wc.cell? ⟨m.sb i, 4, none⟩ = some (.slice va s.pend.length vc) := (by rw [← ev];exact hS2.cell 4);have y5 : wc.cell? ⟨m.sb i, 5, none⟩ = some (.bool true) := (by rw [← hen];exact hS2.cell 5);obtain ⟨W, rfl⟩ : ∃ W, W = wc := ⟨_, rfl⟩;have hb02 := hb1.trans (hb2.mono hb1.size);clear hN ev hx2 hS2 hx1 hS y3 z7 z8 hAn;by_cases h0 : 0 < N
  ·have t : decide (0 < N) = true := by simp [h0]
   rw [t, Bool.true_or] at hbb;subst hbb;go_upto_region 5 with fail;go_quiet (fail)
   all_goals go_wp2
   all_goals go_ret2
   all_goals exact ⟨rfl, hb02.trans ⟨rfl, rfl, rfl, Nat.le_refl _, fun _ _ => rfl⟩⟩
  ·have t : decide (0 < N) = false := by simp;omega
   rw [t, Bool.false_or] at hbb;by_cases hp : s.pend = []
   ·have hl : s.pend.length = 0 := by rw [hp];rfl
    have hb3 : b = true := (by rw [hbb, hp];rfl);clear hbb;subst hb3;rw [hl] at y4;clear hl hp;go_upto_region 5 with fail;go_quiet (fail)
    all_goals go_wp2
    all_goals go_ret2
    all_goals exact ⟨rfl, hb02.trans ⟨rfl, rfl, rfl, Nat.le_refl _, fun _ _ => rfl⟩⟩
   ·have hl : 0 < s.pend.length := List.length_pos_iff.2 hp
    have hb3 : b = false := (by rw [hbb];simp [hp]);clear hbb;subst hb3;have t2 : ((s.pend.length : Int) == 0) = false := (by simp;exact hp);go_upto_region 5 with fail;go_quiet (fail)
    all_goals go_wp2
    all_goals go_ret2
    all_goals exact ⟨rfl, hb02.trans ⟨rfl, rfl, rfl, Nat.le_refl _, fun _ _ => rfl⟩⟩
theorem May_out (w : World) (hx : Cx w n m q) (i most : Int) (hi : I64 i) (ho : ∀ p ∈ q.live, p.1 ≠ i) :
  Calls Tryz.prog 34 #[Ptr n.c, .int .i64 i, .int .i64 most] w fun r w' => r = .returned (.tuple #[.int .i64 0, .bool false]) ∧ Below w.heap.size w w' := by
 have hAn := Answering_out w hx i hi ho;go_enter Tryz.func34, Tryz.ntmps34
 go_wp2_with (go_at_call 30;go_must ((with_reducible refine hAn.mono ?_);rintro r w1 ⟨rfl, hb1⟩))
 go_ret2;exact ⟨rfl, hb1⟩
theorem Pull_no (w : World) (i most N : Int) {p : Value} (hM : Calls Tryz.prog 34 #[p, .int .i64 i, .int .i64 most] w fun r w' => r = .returned (.tuple #[.int .i64 N, .bool false]) ∧ Below w.heap.size w w') :
  Calls Tryz.prog 12 #[p, .int .i64 i, .int .i64 most] w fun r w' => r = .returned (.tuple #[.int .i64 0, .bool false]) ∧ Below w.heap.size w w' := by
 go_enter Tryz.func12, Tryz.ntmps12
 go_wp2_with (go_at_call 34;go_must ((with_reducible refine hM.mono ?_);rintro r w1 ⟨rfl, hb1⟩))
 go_ret2;exact ⟨rfl, hb1⟩
theorem Ready_out (w : World) (hx : Cx w n m q) (i : Int) (hi : I64 i) (ho : ∀ p ∈ q.live, p.1 ≠ i) :
  Calls Tryz.prog 18 #[Ptr n.c, .int .i64 i] w fun r w' => r = .returned (.bool false) ∧ Below w.heap.size w w' := by
 have hM := May_out w hx i 1 hi ho;go_enter Tryz.func18, Tryz.ntmps18
 go_wp2_with (go_at_call 34;go_must ((with_reducible refine hM.mono ?_);rintro r w1 ⟨rfl, hb1⟩))
 go_ret;exact ⟨rfl, hb1⟩
end Go.Proofs.YtcodgfmombehoaaGreatDoor
