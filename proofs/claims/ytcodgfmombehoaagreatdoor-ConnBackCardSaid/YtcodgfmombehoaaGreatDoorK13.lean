/- Parts of the proof of bk_root: the texts Cnw4 Cnw5 Cnf1 Cnf2 Cnf3 Hpk2 Hpk3 Win1 Rda1 Win2 Rda2. -/
import Derived.Defers
import Derived.Recover
import Derived.Laws.EntriesVeiled
import Derived.Test.YtcodgfmombehoaaGreatDoorK12
set_option linter.unusedSimpArgs false
set_option linter.unusedVariables false
set_option linter.unnecessarySimpa false
set_option maxRecDepth 100000
set_option maxHeartbeats 64000000
namespace Go.Proofs.YtcodgfmombehoaaGreatDoor
open Go Go.RowKit Go.Dr
variable {w w' : World} {n : Nm} {m m' : Mm} {q q' : Cq}
abbrev I64 (i : Int) : Prop := -9223372036854775808 ≤ i ∧ i < 9223372036854775808
theorem keyI {i : Int} (h : I64 i) : keyOf Tryz.prog 3 (.int .i64 i) = some (Li i) := Maps.keyOf_int_mk Tryz.underlying3 (wf_small h.1 h.2)
abbrev keyedI : Maps.Keyed Tryz.prog 3 := Maps.int_keyed Tryz.underlying3
theorem zeroCSide (w : World) : (zeroValue 93).run Tryz.prog w = .ok (.pointer none) w := by kernel_rfl
theorem zeroHow (w : World) : (zeroValue 3).run Tryz.prog w = .ok (.int .i64 0) w := by kernel_rfl
theorem zeroOff (w : World) : (zeroValue 2).run Tryz.prog w = .ok (.int .i64 0) w := by kernel_rfl
section
variable {lm b : Nat} {l : List (Int × Nat)} {i : Int}
theorem LMp.inn (h : LMp w lm l) (hi : I64 i) (hm : (i, b) ∈ l) : (Instr.lookup 71 (.map (some lm)) (.int .i64 i) true).run Tryz.prog w = .ok (.tuple #[Ptr b, .bool true]) w ∧ (Instr.lookup 71 (.map (some lm)) (.int .i64 i) false).run Tryz.prog w = .ok (Ptr b) w :=
 GMap.inn h keyedI Tryz.underlying71 (zeroCSide w) (zd := .nil) (zp := []) rfl (keyI hi) hm (fun _ _ e => Rp_inv e)
theorem LMp.out (h : LMp w lm l) (hi : I64 i) (hm : ∀ p ∈ l, p.1 ≠ i) : (Instr.lookup 71 (.map (some lm)) (.int .i64 i) true).run Tryz.prog w = .ok (.tuple #[.pointer none, .bool false]) w ∧ (Instr.lookup 71 (.map (some lm)) (.int .i64 i) false).run Tryz.prog w = .ok (.pointer none) w :=
 GMap.out h keyedI Tryz.underlying71 (zeroCSide w) (zd := .nil) (zp := []) rfl (keyI hi) hm (fun _ _ e => Rp_nil e)
theorem LMp.put (h : LMp w lm l) (hi : I64 i) (hm : ∀ p ∈ l, p.1 ≠ i) (hn : l.length < maxLen) (b : Nat) : ∃ w', (Instr.mapUpdate 71 (.map (some lm)) (.int .i64 i) (Ptr b)).run Tryz.prog w = .ok () w' ∧ LMp w' lm (l ++ [(i, b)]) ∧ w.mapTurned w' lm :=
 GMap.put Li_ne h keyedI Tryz.underlying71 (keyI hi) (Li_key i) hm hn (Rp_ptr b)
theorem LMp.drop {a c : List (Int × Nat)} (h : LMp w lm (a ++ (i, b) :: c)) (hi : I64 i) (ty : TypeId) : ∃ w', (Builtin.delete_ #[71, 3] ty #[.map (some lm), .int .i64 i]).run Tryz.prog w = .ok (.tuple #[]) w' ∧ LMp w' lm (a ++ c) ∧ w.mapTurned w' lm :=
 GMap.drop Li_ne h keyedI Tryz.underlying71 (keyI hi) ty
theorem LMp.dropNone (h : LMp w lm l) (hi : I64 i) (hm : ∀ p ∈ l, p.1 ≠ i) (ty : TypeId) : ∃ w', (Builtin.delete_ #[71, 3] ty #[.map (some lm), .int .i64 i]).run Tryz.prog w = .ok (.tuple #[]) w' ∧ LMp w' lm l ∧ w.mapTurned w' lm :=
 GMap.dropNone Li_ne h hm keyedI Tryz.underlying71 (keyI hi) ty
end
section
variable {hm : Nat} {l : List (Int × Int)} {i x : Int}
theorem IMp.outH (h : IMp w hm l) (hi : I64 i) (hx : ∀ p ∈ l, p.1 ≠ i) : (Instr.lookup 72 (.map (some hm)) (.int .i64 i) true).run Tryz.prog w = .ok (.tuple #[.int .i64 0, .bool false]) w ∧ (Instr.lookup 72 (.map (some hm)) (.int .i64 i) false).run Tryz.prog w = .ok (.int .i64 0) w :=
 GMap.out h keyedI Tryz.underlying72 (zeroHow w) (zd := .lit (.int .i64 0)) (zp := []) rfl (keyI hi) hx (fun _ _ e => Ri_inv e)
theorem IMp.innO (h : IMp w hm l) (hi : I64 i) (hx : (i, x) ∈ l) : (Instr.lookup 130 (.map (some hm)) (.int .i64 i) true).run Tryz.prog w = .ok (.tuple #[.int .i64 x, .bool true]) w ∧ (Instr.lookup 130 (.map (some hm)) (.int .i64 i) false).run Tryz.prog w = .ok (.int .i64 x) w :=
 GMap.inn h keyedI Tryz.underlying130 (zeroOff w) (zd := .lit (.int .i64 0)) (zp := []) rfl (keyI hi) hx (fun _ _ e => Ri_inv e)
theorem IMp.outO (h : IMp w hm l) (hi : I64 i) (hx : ∀ p ∈ l, p.1 ≠ i) : (Instr.lookup 130 (.map (some hm)) (.int .i64 i) true).run Tryz.prog w = .ok (.tuple #[.int .i64 0, .bool false]) w ∧ (Instr.lookup 130 (.map (some hm)) (.int .i64 i) false).run Tryz.prog w = .ok (.int .i64 0) w :=
 GMap.out h keyedI Tryz.underlying130 (zeroOff w) (zd := .lit (.int .i64 0)) (zp := []) rfl (keyI hi) hx (fun _ _ e => Ri_inv e)
theorem IMp.putO (h : IMp w hm l) (hi : I64 i) (hx : ∀ p ∈ l, p.1 ≠ i) (hn : l.length < maxLen) (x : Int) : ∃ w', (Instr.mapUpdate 130 (.map (some hm)) (.int .i64 i) (.int .i64 x)).run Tryz.prog w = .ok () w' ∧ IMp w' hm (l ++ [(i, x)]) ∧ w.mapTurned w' hm :=
 GMap.put Li_ne h keyedI Tryz.underlying130 (keyI hi) (Li_key i) hx hn (show Ri (.int .i64 x) = some (Ei x, []) from rfl)
theorem IMp.setO {a c : List (Int × Int)} (h : IMp w hm (a ++ (i, x) :: c)) (hi : I64 i) (hn : (a ++ (i, x) :: c).length < maxLen) (y : Int) : ∃ w', (Instr.mapUpdate 130 (.map (some hm)) (.int .i64 i) (.int .i64 y)).run Tryz.prog w = .ok () w' ∧ IMp w' hm (a ++ (i, y) :: c) ∧ w.mapTurned w' hm :=
 GMap.set Li_ne h keyedI Tryz.underlying130 (keyI hi) (Li_key i) hn (show Ri (.int .i64 y) = some (Ei y, []) from rfl)
theorem IMp.dropO {a c : List (Int × Int)} (h : IMp w hm (a ++ (i, x) :: c)) (hi : I64 i) (ty : TypeId) : ∃ w', (Builtin.delete_ #[130, 3] ty #[.map (some hm), .int .i64 i]).run Tryz.prog w = .ok (.tuple #[]) w' ∧ IMp w' hm (a ++ c) ∧ w.mapTurned w' hm :=
 GMap.drop Li_ne h keyedI Tryz.underlying130 (keyI hi) ty
theorem IMp.dropNoneO (h : IMp w hm l) (hi : I64 i) (hx : ∀ p ∈ l, p.1 ≠ i) (ty : TypeId) : ∃ w', (Builtin.delete_ #[130, 3] ty #[.map (some hm), .int .i64 i]).run Tryz.prog w = .ok (.tuple #[]) w' ∧ IMp w' hm l ∧ w.mapTurned w' hm :=
 GMap.dropNone Li_ne h hx keyedI Tryz.underlying130 (keyI hi) ty
end
def sans {α : Type} (l : List (Int × α)) (i : Int) : List (Int × α) := l.filter fun p => p.1 != i
theorem sans_none {α : Type} {l : List (Int × α)} {i : Int} (h : ∀ p ∈ l, p.1 ≠ i) : sans l i = l := by
 unfold sans;rw [List.filter_eq_self];intro p hp;simpa using h p hp
theorem sans_mid {α : Type} {a c : List (Int × α)} {i : Int} {x : α} (h : ((a ++ (i, x) :: c).map (·.1)).Nodup) : sans (a ++ (i, x) :: c) i = a ++ c := by
 have hn := nodup_mid h;have ha : ∀ p ∈ a, p.1 ≠ i := fun p hp => hn p (List.mem_append.2 (.inl hp))
 have hc : ∀ p ∈ c, p.1 ≠ i := fun p hp => hn p (List.mem_append.2 (.inr hp))
 unfold sans;rw [List.filter_append, List.filter_cons];have e1 := sans_none ha;have e2 := sans_none hc;unfold sans at e1 e2;rw [e1, e2];simp
theorem key_cases {α : Type} (l : List (Int × α)) (i : Int) : (∃ a x c, l = a ++ (i, x) :: c) ∨ ∀ p ∈ l, p.1 ≠ i := by
 by_cases h : ∃ p ∈ l, p.1 = i
 ·obtain ⟨⟨j, x⟩, hp, rfl⟩ := h
  obtain ⟨a, c, e⟩ := List.append_of_mem hp;exact .inl ⟨a, x, c, e⟩
 ·exact .inr fun p hp e => h ⟨p, hp, e⟩
theorem State_live {F : Nat → Prop} (w : World) (h : Cw w n q F) (i : Int) (s : Sp) (hs : (i, s) ∈ q.live) (h1 : ¬ i < 1) (h2 : ¬ q.last < i) (h3 : i % 2 = 1) (hl : q.last < 4294967296) : Calls Tryz.prog 17 #[Ptr n.c, .int .i64 i] w fun e w' => e = .returned (.int .i64 s.st) ∧ w' = w := by
 obtain ⟨m, hx, rfl⟩ := h;have y : w.cell? ⟨n.c, 12, none⟩ = some (.int .i64 q.last) := hx.blk.cell 12;have y9 : w.cell? ⟨n.c, 9, none⟩ = some (.map (some n.lm)) := hx.blk.cell 9;have h4 : (Int.tmod i 2 == 0) = false := (by rw [Int.tmod_eq_emod_of_nonneg (by omega), h3];rfl);have hk := (hx.live.inn (i := i) (b := m.sb i) (by constructor <;> omega) (List.mem_map.2 ⟨_, hs, rfl⟩)).1;have hs6 : w.cell? ⟨m.sb i, 6, none⟩ = some (.int .i64 s.st) := (hx.side _ hs).cell 6;go_enter Tryz.func17, Tryz.ntmps17
 go_wp2;go_ret;exact ⟨rfl, rfl⟩
theorem State_done {F : Nat → Prop} (w : World) (h : Cw w n q F) (i : Int) (hs : ∀ p ∈ q.how, p.1 ≠ i) (ho : ∀ p ∈ q.live, p.1 ≠ i) (h1 : ¬ i < 1) (h2 : ¬ q.last < i) (h3 : i % 2 = 1) (hl : q.last < 4294967296) : Calls Tryz.prog 17 #[Ptr n.c, .int .i64 i] w fun e w' => e = .returned (.int .i64 4) ∧ w' = w := by
 obtain ⟨m, hx, rfl⟩ := h;have y : w.cell? ⟨n.c, 12, none⟩ = some (.int .i64 q.last) := hx.blk.cell 12;have y9 : w.cell? ⟨n.c, 9, none⟩ = some (.map (some n.lm)) := hx.blk.cell 9;have y11 : w.cell? ⟨n.c, 11, none⟩ = some (.map (some n.hm)) := hx.blk.cell 11;have h4 : (Int.tmod i 2 == 0) = false := (by rw [Int.tmod_eq_emod_of_nonneg (by omega), h3];rfl);have hI : I64 i := (by constructor <;> omega);have hk := (hx.live.out hI (by intro p hp;obtain ⟨p', hp', rfl⟩ := List.mem_map.1 hp;exact ho p' hp')).1;have hk2 := (hx.how.outH hI hs).1;go_enter Tryz.func17, Tryz.ntmps17
 go_wp2;go_ret;exact ⟨rfl, rfl⟩
open Go Go.RowKit Go.Dr
variable {w w' : World} {n : Nm} {m m' : Mm} {q q' : Cq}
theorem but_turn2 {w w' : World} {o : Nat} (h : w.mapTurned w' o) : But (fun k => k = o) w w' := But.grown h.grown rfl
theorem LMp.del {lm : Nat} {l : List (Int × Nat)} {i : Int} (h : LMp w lm l) (hi : I64 i) (ty : TypeId) : ∃ w', (Builtin.delete_ #[71, 3] ty #[.map (some lm), .int .i64 i]).run Tryz.prog w = .ok (.tuple #[]) w' ∧ LMp w' lm (sans l i) ∧ w.mapTurned w' lm := by
 rcases key_cases l i with ⟨a, b, c, rfl⟩ | hn
 ·rw [sans_mid h.nodup]
  exact h.drop hi ty
 ·rw [sans_none hn]
  exact h.dropNone hi hn ty
theorem IMp.delO {hm : Nat} {l : List (Int × Int)} {i : Int} (h : IMp w hm l) (hi : I64 i) (ty : TypeId) : ∃ w', (Builtin.delete_ #[130, 3] ty #[.map (some hm), .int .i64 i]).run Tryz.prog w = .ok (.tuple #[]) w' ∧ IMp w' hm (sans l i) ∧ w.mapTurned w' hm := by
 rcases key_cases l i with ⟨a, b, c, rfl⟩ | hn
 ·rw [sans_mid h.nodup]
  exact h.dropO hi ty
 ·rw [sans_none hn]
  exact h.dropNoneO hi hn ty
theorem sans_map (l : List (Int × Sp)) (f : Int → Nat) (i : Int) : sans (l.map fun p => (p.1, f p.1)) i = (sans l i).map fun p => (p.1, f p.1) := by
 unfold sans;rw [List.filter_map];rfl
theorem sans_mem {α : Type} {l : List (Int × α)} {i : Int} {p : Int × α} (h : p ∈ sans l i) : p ∈ l := (List.mem_filter.1 h).1
theorem Cx.goesO (hx : Cx w n m q) {S : Nat → Prop} (hb : But S w w') (hS : ∀ g, S g → g = n.om ∨ g = n.bk) {all first : Int} {off : List (Int × Int)} (hbk : Blk w' n.bk 132 #[.int .i64 all, .int .i64 first, .map (some n.om)]) (ho : IMp w' n.om off) : Cx w' n m { q with all := all, first := first, off := off } ∧ GoesF w n (Foot n m q) w' { q with all := all, first := first, off := off } (Foot n m { q with all := all, first := first, off := off }) := by
 have h := hx.upO hb hS all first off hbk ho;refine ⟨h, h.goesF (hb.more fun g hg => ?_) fun g hg => .inl hg⟩
 rcases hS g hg with rfl | rfl
 ·exact Foot.om
 ·exact Foot.bk
theorem Cx.om_bk (hx : Cx w n m q) : n.bk ≠ n.om := fun e => by
 obtain ⟨kc, -, -, -, -, -, k1, -, -, k2, -⟩ := hx.kinds;rw [e] at k1;omega
theorem Shut_any {F : Nat → Prop} (w : World) (h : Cw w n q F) (i : Int) (hi : I64 i) : Calls Tryz.prog 119 #[Ptr n.bk, .int .i64 i] w fun e w' => e = .returned (.tuple #[]) ∧ Goes w n F w' { q with off := sans q.off i } := by
 obtain ⟨m, hx, rfl⟩ := h;have y : w.cell? ⟨n.bk, 2, none⟩ = some (.map (some n.om)) := hx.book.cell 2;obtain ⟨w2, hrun, ho, ht⟩ := hx.off.delO hi 0;go_enter Tryz.func119, Tryz.ntmps119
 go_wp2;go_end0
 exact ⟨rfl, (hx.goesO (but_turn2 ht) (fun g hg => .inl hg) (hx.book.but (but_turn2 ht) hx.om_bk) ho).2.goes⟩
theorem Opened_any {F : Nat → Prop} (w : World) (h : Cw w n q F) (i : Int) (hi : I64 i) (h1 : ¬ i < 1) (hn : ∀ p ∈ q.off, p.1 ≠ i) (hl : q.off.length < 1000000) : Calls Tryz.prog 148 #[Ptr n.bk, .int .i64 i] w fun e w' => e = .returned (.int .i64 0) ∧ Goes w n F w' { q with off := q.off ++ [(i, 0)] } := by
 obtain ⟨m, hx, rfl⟩ := h;have y : w.cell? ⟨n.bk, 2, none⟩ = some (.map (some n.om)) := hx.book.cell 2;have hk := (hx.off.outO hi hn).1;obtain ⟨w2, hrun, ho, ht⟩ := hx.off.putO hi hn (by unfold maxLen;omega) 0;go_enter Tryz.func148, Tryz.ntmps148
 go_wp2;go_ret;exact ⟨rfl, (hx.goesO (but_turn2 ht) (fun g hg => .inl hg) (hx.book.but (but_turn2 ht) hx.om_bk) ho).2.goes⟩
theorem Cx.goesC (hx : Cx w n m q) (hb : But (fun g => g = n.c) w w') (q' : Cq) (hc : Blk w' n.c 78 (ccells n m q'))
  (hq : (q'.tab, q'.lst, q'.live, q'.how, q'.pre, q'.all, q'.first, q'.off, q'.tm, q'.brk, q'.told, q'.least) = (q.tab, q.lst, q.live, q.how, q.pre, q.all, q.first, q.off, q.tm, q.brk, q.told, q.least)) (hr : (q'.bytes, q'.news, q'.closed) = (q.bytes, q.news, q.closed)) : Cx w' n m q' ∧ GoesF w n (Foot n m q) w' q' (Foot n m q') := by
 obtain ⟨kc, -, -, -, -, -, -, -, -, -, -, -, -, -, kbv, knv, kcv, ksd⟩ := hx.kinds;simp only [Prod.mk.injEq] at hr;obtain ⟨r1, r2, r3⟩ := hr;obtain ⟨k, hn⟩ := hx.news
 have hX := hx.upC hb (by intro g hg;rw [hg];exact .inl kc) m q' hc
  (by rw [r1];exact own_same hx.bytes fun g hg => hb.block g (own_lt hx.bytes hg).2 (by have := kbv g hg;rintro rfl;omega))
  (by rw [r2];exact ⟨k, own_same hn fun g hg => hb.block g (own_lt hn hg).2 (by have := knv g hg;rintro rfl;omega)⟩)
  (by rw [r3];exact own_same hx.closed fun g hg => hb.block g (own_lt hx.closed hg).2 (by have := kcv g hg;rintro rfl;omega))
  (fun p hp g hg => ⟨by have := (ksd p hp).2 g hg;rintro rfl;omega, hx.bp p hp g hg⟩) rfl rfl hq
 refine ⟨hX, hX.goesF (hb.more fun g hg => by rw [hg];exact Foot.c _ _ _) fun g hg => ?_⟩;simp only [Prod.mk.injEq] at hq
 rcases foot_rows (m := m) (q := q) hg hq.2.2.1 rfl rfl with h | h | h | h
 ·exact .inl h
 ·exact .inl (Foot.bv h)
 ·exact .inl (Foot.nv h)
 ·exact .inl (Foot.cv h)
theorem Cx.goesC1 (hx : Cx w n m q) (k : Nat) (u : Value) (q' : Cq) (hc : (ccells n m q).setIfInBounds k u = ccells n m q')
  (hq : (q'.tab, q'.lst, q'.live, q'.how, q'.pre, q'.all, q'.first, q'.off, q'.tm, q'.brk, q'.told, q'.least) = (q.tab, q.lst, q.live, q.how, q.pre, q.all, q.first, q.off, q.tm, q.brk, q.told, q.least)) (hr : (q'.bytes, q'.news, q'.closed) = (q.bytes, q.news, q.closed)) : Cx (w.setCell ⟨n.c, k, none⟩ u) n m q' ∧ GoesF w n (Foot n m q) (w.setCell ⟨n.c, k, none⟩ u) q' (Foot n m q') :=
 hx.goesC ((But.refl (fun g => g = n.c) w).setCell (p := ⟨n.c, k, none⟩) (.inl rfl) _) q' (hc ▸ hx.blk.set k u) hq hr
theorem Rest_any {F : Nat → Prop} (w : World) (h : Cw w n q F) : Calls Tryz.prog 54 #[Ptr n.c] w fun e w' => e = .returned (.tuple #[]) ∧ Goes w n F w' { q with over := q.over || (q.drained && q.live.isEmpty) } := by
 have h0 := h;obtain ⟨m, hx, rfl⟩ := h;have y9 : w.cell? ⟨n.c, 9, none⟩ = some (.map (some n.lm)) := hx.blk.cell 9;have y17 : w.cell? ⟨n.c, 17, none⟩ = some (.bool q.drained) := hx.blk.cell 17;have y19 : w.cell? ⟨n.c, 19, none⟩ = some (.bool q.over) := hx.blk.cell 19;have f19 := hx.blk.free 19;have hlen := hx.live.len Tryz.underlying71 3;rw [List.length_map] at hlen;by_cases hd : q.drained = true
 ·rw [hd] at y17
  by_cases hl : q.live.length = 0
  ·have hl0 : ((q.live.length : Int) == 0) = true := by rw [hl];rfl
   have e : (q.over || (q.drained && q.live.isEmpty)) = true := (by rw [hd, List.isEmpty_iff.2 (List.eq_nil_of_length_eq_zero hl)];simp);rw [e];clear hl e;go_enter Tryz.func54, Tryz.ntmps54
   go_wp2;go_end0
   exact ⟨rfl, (hx.goesC1 19 _ { q with over := true } rfl rfl rfl).2.goes⟩
  ·have hl0 : ((q.live.length : Int) == 0) = false := by simpa using hl
   have e : (q.over || (q.drained && q.live.isEmpty)) = q.over := by
    rw [show q.live.isEmpty = false by rw [List.isEmpty_eq_false_iff];intro e;rw [e] at hl;exact hl rfl];simp
   rw [e];clear hl e;go_enter Tryz.func54, Tryz.ntmps54
   go_wp2;go_end0
   exact ⟨rfl, Goes.refl h0⟩
 ·have hd : q.drained = false := by simpa using hd
  rw [hd] at y17;have e : (q.over || (q.drained && q.live.isEmpty)) = q.over := (by rw [hd];simp);rw [e];clear hd e;go_enter Tryz.func54, Tryz.ntmps54
  go_wp2;go_end0
  exact ⟨rfl, Goes.refl h0⟩
theorem Cx.goesL (hx : Cx w n m q) (hb : But (fun g => g = n.lm) w w') (i : Int) (hl : LMp w' n.lm (sans (q.live.map fun p => (p.1, m.sb p.1)) i)) : Cx w' n m { q with live := sans q.live i } ∧ GoesF w n (Foot n m q) w' { q with live := sans q.live i } (Foot n m { q with live := sans q.live i }) := by
 obtain ⟨-, -, -, -, -, -, -, k1, -, -, -, -, -, -, kbv, knv, kcv, ksd⟩ := hx.kinds
 have hX := hx.upL hb (fun g hg => .inl hg) m (sans q.live i) rfl (by rw [← sans_map];exact hl)
  (fun p hp => (hx.side p (sans_mem hp)).but hb (by have := (ksd p (sans_mem hp)).1;intro e;rw [e] at this;omega))
  (fun p hp => own_same (hx.pend p (sans_mem hp)) fun g hg => hb.block g (own_lt (hx.pend p (sans_mem hp)) hg).2 (by have := (ksd p (sans_mem hp)).2 g hg;rintro rfl;omega))
  (fun p hp => hx.bp p (sans_mem hp)) (fun p hp p' hp' => hx.ss p (sans_mem hp) p' (sans_mem hp')) (fun p hp => hx.lo _ (Foot.side (sans_mem hp)))
 refine ⟨hX, hX.goesF (hb.more fun g hg => by rw [hg];exact Foot.lm) fun g hg => .inl ?_⟩
 rcases hg with hg | hg | hg | ⟨p, hp, hg⟩
 ·exact .inl hg
 ·exact .inr (.inl hg)
 ·exact .inr (.inr (.inl hg))
 ·exact .inr (.inr (.inr ⟨p, sans_mem hp, hg⟩))
theorem Settle_done {F : Nat → Prop} (w : World) (h : Cw w n q F) (i : Int) (hi : I64 i) : Calls Tryz.prog 85 #[Ptr n.c, .int .i64 i, .int .i64 4] w fun e w' => e = .returned (.tuple #[]) ∧ Goes w n F w' { q with live := sans q.live i, off := sans q.off i } := by
 have h0 := h;obtain ⟨m, hx, rfl⟩ := h;have y9 : w.cell? ⟨n.c, 9, none⟩ = some (.map (some n.lm)) := hx.blk.cell 9;obtain ⟨w2, hrun, hl, ht⟩ := hx.live.del hi 0;obtain ⟨hx2, hg2⟩ := hx.goesL (but_turn2 ht) i hl;have y7 : w2.cell? ⟨n.c, 7, none⟩ = some (Ptr n.bk) := hx2.blk.cell 7;have hS := Shut_any w2 ⟨m, hx2, rfl⟩ i hi;go_enter Tryz.func85, Tryz.ntmps85
 go_wp2_with (go_at_call 119;(with_reducible refine hS.mono ?_);rintro e w3 ⟨rfl, hg3⟩)
 refine bodyPost_ret (v := .tuple #[]) (by simp [results, Tryz.results85, go_sem]) rfl ?_;obtain ⟨F3, k3⟩ := hg2.step hg3;exact ⟨rfl, k3.goes⟩
open Go Go.RowKit Go.Dr
theorem BookAt_in {bk om : Nat} {all first i x : Int} {l : List (Int × Int)} (w : World) (hB : Blk w bk 132 #[.int .i64 all, .int .i64 first, .map (some om)]) (hm : IMp w om l) (hi : I64 i) (h1 : 1 ≤ i) (hx : (i, x) ∈ l) (hs : I64 (first + x)) :
  Calls Tryz.prog 69 #[Ptr bk, .int .i64 i] w fun e w' => e = .returned (.tuple #[.int .i64 (first + x), .bool true]) ∧ Below w.heap.size w w' := by
 have y1 : w.cell? ⟨bk, 1, none⟩ = some (.int .i64 first) := hB.cell 1;have y2 : w.cell? ⟨bk, 2, none⟩ = some (.map (some om)) := hB.cell 2;have hk := (hm.innO hi hx).1;have hd : (i == 0) = false := (by simp;omega);have hw : IntKind.i64.wrap (first + x) = first + x := IntWalk.i64_in _ (by unfold I64 at hs;omega);go_enter Tryz.func69, Tryz.ntmps69
 go_wp2;go_ret2;exact ⟨rfl, Below.refl _ _⟩
theorem BookRoom_in {bk om : Nat} {all first i x : Int} {l : List (Int × Int)} (w : World) (hB : Blk w bk 132 #[.int .i64 all, .int .i64 first, .map (some om)]) (hm : IMp w om l) (hi : I64 i) (h1 : 1 ≤ i) (hx : (i, x) ∈ l) (hs : I64 (first + x)) :
  Calls Tryz.prog 68 #[Ptr bk, .int .i64 i] w fun e w' => e = .returned (.int .i64 (max 0 (min (first + x) all))) ∧ Below w.heap.size w w' := by
 have hA := BookAt_in w hB hm hi h1 hx hs;have hd : (i == 0) = false := (by simp;omega);go_enter Tryz.func68, Tryz.ntmps68
 go_wp2_with (go_at_call 69;go_must ((with_reducible refine hA.mono ?_);rintro e w1 ⟨rfl, hb1⟩;have y0 : w1.cell? ⟨bk, 0, none⟩ = some (.int .i64 all) := (hB.on hb1).cell 0))
 all_goals
  go_ret
  rename_i hc
  have hv : ∀ r : Int, r = max 0 (min (first + x) all) → Ending.returned (.int .i64 r) = .returned (.int .i64 (max 0 (min (first + x) all))) := fun r h => by rw [h]
  refine ⟨hv _ ?_, hb1⟩
  split at hc <;> omega
open Go Go.RowKit Go.Dr
theorem BookSpend_in {bk om : Nat} {all first i x : Int} {a c : List (Int × Int)} (n : Int) (w : World) (hob : om ≠ bk) (hB : Blk w bk 132 #[.int .i64 all, .int .i64 first, .map (some om)]) (hm : IMp w om (a ++ (i, x) :: c)) (hlen : (a ++ (i, x) :: c).length < maxLen) (hi : I64 i) (h1 : 1 ≤ i) (hs : I64 (first + x)) (hn0 : 0 ≤ n) (hn : n ≤ max 0 (min (first + x) all)) (hd1 : I64 (x - n)) (hd2 : I64 (all - n)) :
  Calls Tryz.prog 35 #[Ptr bk, .int .i64 i, .int .i64 n] w fun e w' => e = .returned (.int .i64 0) ∧ Blk w' bk 132 #[.int .i64 (all - n), .int .i64 first, .map (some om)] ∧ IMp w' om (a ++ (i, x - n) :: c) ∧ But (fun k => k = om ∨ k = bk) w w' := by
 have hx : (i, x) ∈ a ++ (i, x) :: c := (by simp);have hA := BookAt_in w hB hm hi h1 hx hs;have hd : (i == 0) = false := (by simp;omega);have hw1 : IntKind.i64.wrap (x - n) = x - n := IntWalk.i64_in _ (by unfold I64 at hd1;omega);have hw2 : IntKind.i64.wrap (all - n) = all - n := IntWalk.i64_in _ (by unfold I64 at hd2;omega);have hlt : decide (n < 0) = false := (by simp;omega);have hR : ∀ r : Int, r = max 0 (min (first + x) all) → decide (r < n) = false := fun r hr => by simp;omega
 have hRm := hR _ rfl;have hLo := hB.lt;go_enter Tryz.func35, Tryz.ntmps35
 go_upto_region 8 with first
  | (go_at_call 69;go_must ((with_reducible refine hA.mono ?_);rintro e w1 ⟨rfl, hb1⟩;have hRo := BookRoom_in w1 (hB.on hb1) (GMap.on hm hb1) hi h1 hx hs))
  | (go_at_call 68;go_must ((with_reducible refine hRo.mono ?_);rintro e w2 ⟨rfl, hb2⟩))
 have hb02 := hb1.trans (hb2.mono hb1.size);have hB2 := hB.on hb02;have hm2 : IMp w2 om (a ++ (i, x) :: c) := GMap.on hm hb02;have y2 : w2.cell? ⟨bk, 2, none⟩ = some (.map (some om)) := hB2.cell 2;have hlk := (hm2.innO hi hx).2;obtain ⟨w3, hrun, hm3, ht3⟩ := hm2.setO hi hlen (x - n);have hu3 := but_turn2 ht3;have hB3 := hB2.but hu3 (fun e => hob e.symm);have z0 : w3.cell? ⟨bk, 0, none⟩ = some (.int .i64 all) := hB3.cell 0;have f0 := hB3.free 0;go_wp2;go_ret;exact ⟨rfl, hB3.set 0 _, hm3.far hob _, ((But.of_below (S := fun k => k = om ∨ k = bk) hb02).trans (hu3.more fun g hg => .inl hg)).setCell (p := ⟨bk, 0, none⟩) (.inl (.inr rfl)) _⟩
open Go Go.RowKit Go.Dr
theorem BookGrow_in {bk om : Nat} {all first i x : Int} {a c : List (Int × Int)} (n : Int) (w : World) (hob : om ≠ bk) (hB : Blk w bk 132 #[.int .i64 all, .int .i64 first, .map (some om)]) (hm : IMp w om (a ++ (i, x) :: c)) (hlen : (a ++ (i, x) :: c).length < maxLen) (hi : I64 i) (h1 : 1 ≤ i) (hs : I64 (first + x)) (hn0 : 1 ≤ n) (hn : n ≤ 2147483647) (hr : first + x ≤ 2147483647 - n) (hd1 : I64 (x + n)) :
  Calls Tryz.prog 125 #[Ptr bk, .int .i64 i, .int .i64 n] w fun e w' => e = .returned (.int .i64 0) ∧ Blk w' bk 132 #[.int .i64 all, .int .i64 first, .map (some om)] ∧ IMp w' om (a ++ (i, x + n) :: c) ∧ But (fun k => k = om) w w' := by
 have hx : (i, x) ∈ a ++ (i, x) :: c := (by simp);have hA := BookAt_in w hB hm hi h1 hx hs;have hd : (i == 0) = false := (by simp;omega);have hw1 : IntKind.i64.wrap (x + n) = x + n := IntWalk.i64_in _ (by unfold I64 at hd1;omega);have hw2 : IntKind.i64.wrap (2147483647 - n) = 2147483647 - n := IntWalk.i64_in _ (by omega);have t1 : decide (n < 1) = false := (by simp;omega);have t2 : decide (2147483647 < n) = false := (by simp;omega);have t3 : decide (2147483647 - n < first + x) = false := (by simp;omega);have hLo := hB.lt;go_enter Tryz.func125, Tryz.ntmps125
 go_upto_region 10 with (go_at_call 69;go_must ((with_reducible refine hA.mono ?_);rintro e w2 ⟨rfl, hb02⟩;have hB2 := hB.on hb02;have hm2 : IMp w2 om (a ++ (i, x) :: c) := GMap.on hm hb02;have y2 : w2.cell? ⟨bk, 2, none⟩ = some (.map (some om)) := hB2.cell 2;have hlk := (hm2.innO hi hx).2))
 obtain ⟨w3, hrun, hm3, ht3⟩ := hm2.setO hi hlen (x + n);have hu3 := but_turn2 ht3;have hB3 := hB2.but hu3 (fun e => hob e.symm);go_wp2;go_ret;exact ⟨rfl, hB3, hm3, (But.of_below (S := fun k => k = om) hb02).trans hu3⟩
theorem BookGrow_all {bk om : Nat} {all first : Int} (n : Int) (w : World) (hB : Blk w bk 132 #[.int .i64 all, .int .i64 first, .map (some om)]) (hn0 : 1 ≤ n) (hn : n ≤ 2147483647) (hr : all ≤ 2147483647 - n) (ha : -2147483648 ≤ all) :
  Calls Tryz.prog 125 #[Ptr bk, .int .i64 0, .int .i64 n] w fun e w' => e = .returned (.int .i64 0) ∧ Blk w' bk 132 #[.int .i64 (all + n), .int .i64 first, .map (some om)] ∧ But (fun k => k = bk) w w' := by
 have hw1 : IntKind.i64.wrap (all + n) = all + n := IntWalk.i64_in _ (by omega);have hw2 : IntKind.i64.wrap (2147483647 - n) = 2147483647 - n := IntWalk.i64_in _ (by omega);have t1 : decide (n < 1) = false := (by simp;omega);have t2 : decide (2147483647 < n) = false := (by simp;omega);have t3 : decide (2147483647 - n < all) = false := (by simp;omega);have y0 : w.cell? ⟨bk, 0, none⟩ = some (.int .i64 all) := hB.cell 0;have f0 := hB.free 0
 have hA : Calls Tryz.prog 69 #[Ptr bk, .int .i64 0] w fun e w' => e = .returned (.tuple #[.int .i64 all, .bool true]) ∧ w' = w := by
  go_enter Tryz.func69, Tryz.ntmps69
  go_wp2;go_ret2;exact ⟨rfl, rfl⟩
 go_enter Tryz.func125, Tryz.ntmps125
 go_wp2_with (go_at_call 69;go_must ((with_reducible refine hA.mono ?_);rintro e w2 ⟨rfl, rfl⟩))
 go_ret;exact ⟨rfl, hB.set 0 _, (But.refl (fun k => k = bk) _).setCell (p := ⟨bk, 0, none⟩) (.inl rfl) _⟩
open Go.RowKit Go.Dr
abbrev stat8 : Array Value := #[S [58, 115, 116, 97, 116, 117, 115], S [50, 48, 48], .bool false]
open Go.RowKit Go.Dr
theorem catch_idle (p0 p1 p2 : Value) (w : World) :
  CallsD Tryz.prog 144 #[p0, p1, p2] .returning w fun e u' w' => e = .returned (.tuple #[]) ∧ u' = .returning ∧ w' = w := by
 refine callsD_of_wpS Tryz.func144 rfl fun c₀ cs hu => ?_
 apply wpS_seq
 apply wpS_region
 simp [wpOpsS, go_sem, recoverD, hu, Tryz.ntmps144, Exit.thenS]
 apply wpS_seq
 apply wpS_region
 simp [wpOpsS, go_sem, Exit.thenS, Array.replicate]
 refine wpS_cond (t := false) (by simp [Act.eval]) ?_;simp only [Bool.false_eq_true, if_false];refine wpS_of_wp (wp_skip ?_)
 cases c₀
 simp_all [bodyPostS, results, Tryz.results144]
open Go.RowKit Go.Dr
def Rn : Value → Option (DataW Unit × List MemPlace)
 | .int .i64 x => some (.lit (.int .i64 x), [])
 | _ => none
theorem Rn_int (x : Int) : Rn (.int .i64 x) = some (.lit (.int .i64 x), []) := rfl
def OM (w : World) (o : Nat) (x : Int) : Prop := w.ownsMap Tryz.prog 3 Rn o 1 (.map [(.int .i64 1, .lit (.int .i64 x))])
theorem OM.put {w : World} {o : Nat} {x : Int} (h : OM w o x) (y : Int) : ∃ w', (Instr.mapUpdate 130 (.map (some o)) (.int .i64 1) (.int .i64 y)).run Tryz.prog w = .ok () w' ∧ OM w' o y ∧ w.mapTurned w' o := by
 obtain ⟨w', hrun, ho, hm⟩ := h.store (Maps.int_keyed Tryz.underlying3) Tryz.underlying130 (by decide) (Maps.keyOf_int_mk Tryz.underlying3 (show (Lit.int .i64 1).wf = true by decide)) (Rn_int y);refine ⟨w', hrun, ?_, hm⟩;have := World.ownsMap.tight ho
 exact this
theorem OM.new {w : World} {o : Nat} (h : w.heap[o]? = some (.map #[] 0)) (y : Int) : ∃ w', (Instr.mapUpdate 130 (.map (some o)) (.int .i64 1) (.int .i64 y)).run Tryz.prog w = .ok () w' ∧ OM w' o y ∧ w.mapTurned w' o := by
 have h0 : w.ownsMap Tryz.prog 3 Rn o 0 (.map []) := ⟨#[], 0, h, ⟨by simp, MapKept.stamped_empty 0, by simp⟩, Nat.le_refl _, rfl⟩;obtain ⟨w', hrun, ho, hm⟩ := h0.store (Maps.int_keyed Tryz.underlying3) Tryz.underlying130 (by decide) (Maps.keyOf_int_mk Tryz.underlying3 (show (Lit.int .i64 1).wf = true by decide)) (Rn_int y);exact ⟨w', hrun, ho, hm⟩
theorem OM.block {w w' : World} {o : Nat} {x : Int} (h : OM w o x) (hb : w'.heap[o]? = w.heap[o]?) : OM w' o x := by
 obtain ⟨es, clock, h1, F, h2, h3⟩ := h;exact ⟨es, clock, hb.trans h1, F, h2, h3⟩
theorem OM.lt {w : World} {o : Nat} {x : Int} (h : OM w o x) : o < w.heap.size := by
 obtain ⟨es, clock, h1, -⟩ := h;exact lt_of_block h1
theorem OM.obj {w : World} {o : Nat} {x : Int} (h : OM w o x) : ∃ es clock, w.heap[o]? = some (.map es clock) := by
 obtain ⟨es, clock, h1, -⟩ := h;exact ⟨es, clock, h1⟩
open Go.RowKit Go.Dr
theorem Length_nil (w : World) : Calls Tryz.prog 147 #[.slice none 0 0] w fun e w' => e = .returned (.tuple #[.int .i64 0, .bool false, .int .i64 0]) ∧ w' = w := by
 go_enter Tryz.func147, Tryz.ntmps147
 go_wp2;refine wp_loop_rounds 1 ?_;rw [rounds_succ];go_wp2;go_ret3
 exact ⟨rfl, rfl⟩
abbrev statB : Bytes := [58, 115, 116, 97, 116, 117, 115]
def Rw : Value → Option (DataW Unit × List MemPlace)
 | .agg cs => match cs.toList with
  | [.string x] => some (.lit (.string x.data.toList), [])
  | _ => none
 | _ => none
theorem Rw_inv {v : Value} {l : Bytes} {ps : List MemPlace} (h : Rw v = some (.lit (.string l), ps)) : v = .agg #[S l] := by
 unfold Rw at h
 split at h
 ·split at h
  ·rename_i cs _ x hx
   simp only [Option.some.injEq, Prod.mk.injEq, DataW.lit.injEq, Lit.string.injEq] at h;have e : cs = #[.string x] := (by rw [← Array.toArray_toList (xs := cs), hx]);rw [e, ← h.1]
  ·cases h
 ·cases h
theorem zeroWords (w : World) : (zeroValue 247).run Tryz.prog w = .ok (.agg #[S []]) w := by kernel_rfl
def SM (w : World) (b : Nat) (l : Bytes) : Prop := w.ownsMap Tryz.prog 9 Rw b 1 (.map [(.string statB, .lit (.string l))])
theorem key_stat : keyOf Tryz.prog 9 (S statB) = some (.string statB) := Go.WideMaps.keyOf_string_mk Tryz.underlying9 (s := ⟨statB.toArray⟩) (by decide)
theorem SM.new {w : World} {b : Nat} (h : w.heap[b]? = some (.map #[] 0)) (l : Bytes) : ∃ w', (Instr.mapUpdate 243 (.map (some b)) (S statB) (.agg #[S l])).run Tryz.prog w = .ok () w' ∧ SM w' b l ∧ w.mapTurned w' b := by
 have h0 : w.ownsMap Tryz.prog 9 Rw b 0 (.map []) := ⟨#[], 0, h, ⟨by simp, MapKept.stamped_empty 0, by simp⟩, Nat.le_refl _, rfl⟩;obtain ⟨w', hrun, ho, hm⟩ := h0.store (Maps.string_keyed Tryz.underlying9) Tryz.underlying243 (by decide) key_stat (show Rw (.agg #[S l]) = some (.lit (.string l), []) from rfl);exact ⟨w', hrun, ho, hm⟩
theorem SM.none {w : World} {b : Nat} (h : w.heap[b]? = some (.map #[] 0)) : (Instr.lookup 243 (.map (some b)) (S statB) true).run Tryz.prog w = .ok (.tuple #[.agg #[S []], .bool false]) w := by
 have h0 : w.ownsMap Tryz.prog 9 Rw b 0 (.map []) := ⟨#[], 0, h, ⟨by simp, MapKept.stamped_empty 0, by simp⟩, Nat.le_refl _, rfl⟩;obtain ⟨v, ps, hrun, hv⟩ := h0.look_ok (Maps.string_keyed Tryz.underlying9) Tryz.underlying243 (zeroWords w) (zd := .lit (.string [])) (zp := []) rfl key_stat;have hv := Rw_inv (l := []) hv;subst hv;exact hrun
open Go.RowKit Go.Dr
theorem but_turned {w w' : World} {o : Nat} (h : w.mapTurned w' o) : But (fun k => k = o) w w' := But.grown h.grown rfl
open Go.RowKit Go.Dr
theorem SM.block {w w' : World} {b : Nat} {l : Bytes} (h : SM w b l) (hb : w'.heap[b]? = w.heap[b]?) : SM w' b l := by
 obtain ⟨es, clock, h1, F, h2, h3⟩ := h;exact ⟨es, clock, hb.trans h1, F, h2, h3⟩
end Go.Proofs.YtcodgfmombehoaaGreatDoor
