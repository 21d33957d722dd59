/- Parts of the proof of bk_root: the texts Frm2 Frm3 Frm4. -/
import Derived.Deep.DeepCutAuto
import Derived.Deep.RegionHeld3
import Derived.Deep.RegionWith
import Derived.Deep.RegionLaw
import Derived.Test.YtcodgfmombehoaaGreatDoorK2
import Derived.Test.YtcodgfmombehoaaGreatDoorK3
set_option linter.unusedSimpArgs false
set_option linter.unusedVariables false
set_option linter.unnecessarySimpa false
set_option maxRecDepth 100000
set_option maxHeartbeats 64000000
namespace Go.Proofs.YtcodgfmombehoaaGreatDoor
open Go.RowKit Go.Dr
theorem mask31 (m : Nat) (h : m < 9223372036854775808) : bits .and .i64 (m : Int) 2147483647 = ((m % 2147483648 : Nat) : Int) := by
 have e := bits_and m 2147483647 h (by decide);rw [show (2147483647 : Nat) = 2 ^ 31 - 1 by decide, Nat.and_two_pow_sub_one_eq_mod] at e;exact e
theorem Whole_any (c : Nat) (w : World) :
  Calls Tryz.prog 113 #[.int .i64 (c : Int)] w fun e w' => e = .returned (.agg #[.bool true, .int .i64 (c : Int), .int .i64 0]) ∧ Below w.heap.size w w' := by
 go_enter Tryz.func113, Tryz.ntmps113
 go_wp2;exact bodyPost_ret (v := .agg #[.bool true, .int .i64 (c : Int), .int .i64 0]) (by simp [results, Tryz.results113, go_sem, World.cell?_alloc_mark]) rfl ⟨rfl, (Below.refl _ _).alloc (Nat.le_refl _) _⟩
theorem Place_any {B b : Nat} {c0 c1 c2 c3 c4 c5 c6 c7 c8 c9 c10 c11 : Value} (l : Bytes) (v : Value) (w : World) (h : By B w v l) (hl : 5 ≤ l.length) (hb : Blk w b 36 #[c0, c1, c2, c3, c4, c5, c6, c7, c8, c9, c10, c11]) :
  Calls Tryz.prog 138 #[Ptr b, v] w fun e w' => e = .returned (.tuple #[]) ∧ Blk w' b 36 #[c0, c1, c2, c3, c4, c5, c6, c7, c8, .int .i64 (numF l 0 % 2147483648 : Nat), .int .i64 ((l[4]'hl).toNat : Nat), .bool (decide (2147483647 < numF l 0))] ∧ But (fun k => k = b) w w' := by
 have hN := Num_any l v 0 w h (by omega);obtain ⟨a, cap, rfl, hc, hcm⟩ := h.form;obtain ⟨b', off, rfl, -, x4⟩ := h.at 4 hl
 have hlt : numF l 0 < 4294967296 := by
  refine Nat.lt_of_lt_of_le (beN_lt _) ?_;exact Nat.pow_le_pow_right (j := 4) (by decide) (by rw [List.length_take];omega)
 obtain ⟨m, em⟩ : ∃ m, m = numF l 0 := ⟨_, rfl⟩;rw [← em] at hN hlt ⊢;have hm := mask31 m (by omega);have y9 : w.cell? ⟨b, 9, none⟩ = some c9 := hb.cell 9;have y10 : w.cell? ⟨b, 10, none⟩ = some c10 := hb.cell 10;have y11 : w.cell? ⟨b, 11, none⟩ = some c11 := hb.cell 11;have f9 := hb.free 9;have f10 := hb.free 10;have f11 := hb.free 11;clear em;go_enter Tryz.func138, Tryz.ntmps138
 go_wp2_with fail;refine hN.mono ?_;rintro e w' ⟨rfl, rfl⟩;clear hN;go_wp2;go_end0
 have e1 : wrap64 ((l[4]'hl).toNat : Int) = ((l[4]'hl).toNat : Int) := (by unfold wrap64;have := UInt8.toNat_lt (l[4]'hl);omega);have e2 : decide ((2147483647 : Int) < (m : Int)) = decide (2147483647 < m) := (by simp;omega);have e3 : ((m : Int) % 2147483648) = ((m % 2147483648 : Nat) : Int) := (by omega);rw [e1, e2, e3];refine ⟨rfl, ?_, (((But.refl (fun k => k = b) w').setCell (p := ⟨b, 11, none⟩) (.inl rfl) _).setCell (p := ⟨b, 9, none⟩) (.inl rfl) _).setCell (p := ⟨b, 10, none⟩) (.inl rfl) _⟩;exact ((hb.set 11 _).set 9 _).set 10 _
def unf1 (s : Nat × Nat) : Option Nat :=
 if (s.1 == 2 && decide (1 < s.2)) || (s.1 == 5 && (decide (s.2 < 16384) || decide (16777215 < s.2))) then some 1
 else if s.1 == 4 && decide (2147483647 < s.2) then some 3 else none
def unfF (l : List (Nat × Nat)) : Option Nat := l.findSome? unf1
def ftV (o : Option Nat) : Value := match o with | none => .agg #[.bool false, .int .i64 0, .int .i64 0] | some c => .agg #[.bool true, .int .i64 (c : Int), .int .i64 0]
theorem unfF_bad {l : List (Nat × Nat)} {k c : Nat} (hk : k < l.length) (h0 : ∀ j (hj : j < k), unf1 (l[j]'(by omega)) = none) (h1 : unf1 l[k] = some c) : unfF l = some c := by
 induction l generalizing k with
 | nil => simp at hk
 | cons x l ih =>
  unfold unfF;rw [List.findSome?_cons]
  cases k with
  | zero => simp only [List.getElem_cons_zero] at h1;rw [h1]
  | succ k =>
   have := h0 0 (by omega)
   simp only [List.getElem_cons_zero] at this;rw [this];exact ih (by simpa using hk) (fun j hj => by have := h0 (j + 1) (by omega);simpa using this) (by simpa using h1)
theorem unfF_good {l : List (Nat × Nat)} (h0 : ∀ j (hj : j < l.length), unf1 l[j] = none) : unfF l = none := by
 unfold unfF;rw [List.findSome?_eq_none_iff];intro x hx;obtain ⟨j, hj, rfl⟩ := List.getElem_of_mem hx;exact h0 j hj
def Sts (B : Nat) (w : World) (v : Value) (l : List (Nat × Nat)) : Prop := Rd B w 2 v l.length (scells l)
theorem scells_get (l : List (Nat × Nat)) (k : Nat) (h : k < l.length) (j : Nat) (hj : j < 2) : (scells l)[k * 2 + j]? = (setc l[k])[j]? := by
 induction l generalizing k with
 | nil => simp at h
 | cons x l ih =>
  cases k with
  | zero => simp only [scells, List.flatMap_cons];rw [List.getElem?_append_left (by simp [setc];omega)];simp
  | succ k =>
   have e : scells (x :: l) = setc x ++ scells l := (by simp [scells]);rw [e, List.getElem?_append_right (by simp [setc];omega)];simp only [List.getElem_cons_succ];rw [← ih k (by simpa using h)]
   congr 1
   simp [setc]
   omega
theorem Sts.at {B : Nat} {w : World} {a : Option Addr} {n cap : Nat} {l : List (Nat × Nat)} (h : Sts B w (.slice a n cap) l) (k : Nat) (hk : k < l.length) :
  ∃ b off, a = some ⟨b, off, none⟩ ∧ b < B ∧ w.cell? ⟨b, off + k * 2, none⟩ = some (.int .i64 (l[k].1 : Nat)) ∧ w.cell? ⟨b, off + k * 2 + 1, none⟩ = some (.int .i64 (l[k].2 : Nat)) := by
 obtain ⟨a', cap', h1, h2, h3, h4, h5, h6⟩ := h;simp only [Value.slice.injEq] at h1;obtain ⟨rfl, rfl, rfl⟩ := h1;obtain ⟨b, off, rfl, hb, c0⟩ := h6 (k * 2 + 0) _ (by rw [scells_get l k hk 0 (by omega)];rfl);obtain ⟨b1, off1, e1, _, c1⟩ := h6 (k * 2 + 1) _ (by rw [scells_get l k hk 1 (by omega)];rfl);simp only [Option.some.injEq, Addr.mk.injEq, and_true] at e1;obtain ⟨rfl, rfl⟩ := e1;exact ⟨b, off, rfl, hb, c0, by rw [Nat.add_assoc];exact c1⟩
theorem unf1_one {s : Nat × Nat} (h : (s.1 = 2 ∧ 1 < s.2) ∨ (s.1 = 5 ∧ (s.2 < 16384 ∨ 16777215 < s.2))) : unf1 s = some 1 := by
 simp only [unf1, Bool.or_eq_true, Bool.and_eq_true, beq_iff_eq, decide_eq_true_eq];rw [if_pos h]
theorem unf1_three {s : Nat × Nat} (h : s.1 = 4 ∧ 2147483647 < s.2) : unf1 s = some 3 := by
 simp only [unf1, Bool.or_eq_true, Bool.and_eq_true, beq_iff_eq, decide_eq_true_eq];rw [if_neg (by omega), if_pos h]
theorem unf1_none {s : Nat × Nat} (h : ¬ ((s.1 = 2 ∧ 1 < s.2) ∨ (s.1 = 5 ∧ (s.2 < 16384 ∨ 16777215 < s.2)))) (h2 : ¬ (s.1 = 4 ∧ 2147483647 < s.2)) : unf1 s = none := by
 simp only [unf1, Bool.or_eq_true, Bool.and_eq_true, beq_iff_eq, decide_eq_true_eq];rw [if_neg h, if_neg h2]
theorem ret_unfit {W : World} {tmps : Array Value} {b : Nat} {v0 v1 v2 : Value} {R : Ending → World → Prop} (hs : tmps[2]? = some (.pointer (some ⟨b, 0, none⟩))) (h : Blk W b 57 #[v0, v1, v2]) (hR : R (.returned (.agg #[v0, v1, v2])) W) :
  bodyPost Tryz.prog Tryz.f118 R .ret { tmps := tmps, defers := [] } W := by
 obtain ⟨g0, g1, g2⟩ := h.c3;exact bodyPost_ret (v := .agg #[v0, v1, v2]) (by simp [results, Tryz.results118, go_sem, hs, g0, g1, g2]) rfl hR
theorem Unfit_any (l : List (Nat × Nat)) (v : Value) (w : World) (h : Sts w.heap.size w v l) :
    Calls Tryz.prog 118 #[v] w fun e w' => e = .returned (ftV (unfF l)) ∧ Below w.heap.size w w' := by
  have h' := h
  obtain ⟨a, cap, rfl, hc, hcm, -⟩ := h';have hll : l.length ≤ 9223372036854775807 := (by unfold maxLen at hcm;omega);have hG : Blk (w.alloc (.cells #[.bool false, .int .i64 0, .int .i64 0] 57)) w.heap.size 57 #[.bool false, .int .i64 0, .int .i64 0] := Blk.new _ _ _;go_enter Tryz.func118, Tryz.ntmps118
  go_wp2
  go_loopw [7] (fun i wr => ∃ k : Nat, k ≤ l.length ∧ i = .int .i64 (k : Int) ∧ (∀ j (hj : j < k) (hj' : j < l.length), unf1 l[j] = none) ∧ Below w.heap.size w wr ∧ Blk wr w.heap.size 57 #[.bool false, .int .i64 0, .int .i64 0]) (fun i _ => l.length - (intOf i).toNat)
  case atStart => exact ⟨0, Nat.zero_le _, rfl, fun j hj => by omega, (Below.refl _ _).alloc (Nat.le_refl _) _, hG⟩
  case round =>
    obtain ⟨k, hk, rfl, hu, hbw, hR⟩ := hrel;by_cases hlt : k < l.length
    · have hr : Sts w.heap.size wr (.slice a l.length cap) l := Rd.below h hbw
      obtain ⟨b, off, rfl, hb, x0, x1⟩ := hr.at k hlt;have HU := Lib.hid hu;clear hu hG hr;have hsz : w.heap.size < wr.heap.size := hR.lt;go_wp2_with (go_at_call 113;refine (Whole_any _ _).mono ?_;rintro e w' ⟨rfl, hb9⟩;have hRX := (hR.alloc _).on hb9;have hwX := hbw.trans (((Below.refl w.heap.size wr).alloc (Nat.le_of_lt hsz) _).trans (hb9.mono (by simp;omega)));have q0 : w'.cell? ⟨w.heap.size, 0, none⟩ = some (.bool false) := hRX.cell 0;have q1 : w'.cell? ⟨w.heap.size, 1, none⟩ = some (.int .i64 0) := hRX.cell 1;have q2 : w'.cell? ⟨w.heap.size, 2, none⟩ = some (.int .i64 0) := hRX.cell 2;have z0 := hRX.free 0;have z1 := hRX.free 1;have z2 := hRX.free 2)
      all_goals first
        | (refine ret_unfit rfl (((hRX.set 0 _).set 1 _).set 2 _) ⟨?_, ((hwX.setCell (p := ⟨w.heap.size, 0, none⟩) (Nat.le_refl _) _).setCell (p := ⟨w.heap.size, 1, none⟩) (Nat.le_refl _) _).setCell (p := ⟨w.heap.size, 2, none⟩) (Nat.le_refl _) _⟩
           rw [unfF_bad (c := 1) hlt (fun j hj => HU.out j hj (by omega)) (unf1_one (by omega))]
           rfl)
        | (refine ret_unfit rfl (((hRX.set 0 _).set 1 _).set 2 _) ⟨?_, ((hwX.setCell (p := ⟨w.heap.size, 0, none⟩) (Nat.le_refl _) _).setCell (p := ⟨w.heap.size, 1, none⟩) (Nat.le_refl _) _).setCell (p := ⟨w.heap.size, 2, none⟩) (Nat.le_refl _) _⟩
           rw [unfF_bad (c := 3) hlt (fun j hj => HU.out j hj (by omega)) (unf1_three (by omega))]
           rfl)
        | skip
      all_goals (
        go_roundw
        case rel =>
          refine ⟨k + 1, by omega, by go_num, fun j hj hj' => ?_, hbw.alloc (Nat.le_of_lt hsz) _, hR.alloc _⟩;by_cases e : j < k
          · exact HU.out j e hj'
          · obtain rfl : j = k := by omega
            exact unf1_none (by omega) (by omega)
        case measure => simp [intOf];omega)
    · obtain rfl : k = l.length := by omega
      have HU := Lib.hid hu;clear hu;obtain ⟨q0, q1, q2⟩ := hR.c3;have z0 := hR.free 0;have z1 := hR.free 1;have z2 := hR.free 2;go_wp2;refine ret_unfit rfl (((hR.set 0 _).set 1 _).set 2 _) ⟨?_, ((hbw.setCell (p := ⟨w.heap.size, 0, none⟩) (Nat.le_refl _) _).setCell (p := ⟨w.heap.size, 1, none⟩) (Nat.le_refl _) _).setCell (p := ⟨w.heap.size, 2, none⟩) (Nat.le_refl _) _⟩;rw [unfF_good (fun j hj => HU.out j hj hj)];rfl
open Go.RowKit Go.Dr
theorem numF_lt (l : Bytes) (k : Nat) : numF l k < 4294967296 := by
 refine Nat.lt_of_lt_of_le (beN_lt _) ?_;exact Nat.pow_le_pow_right (j := 4) (by decide) (by rw [List.length_take];omega)
def Opened (w : World) (b : Nat) (o : Option Fr) (e : Ending) (w' : World) : Prop :=
 But (fun k => k = b) w w' ∧ match o with
 | none => e = .returned (.bool false)
 | some f => e = .returned (.bool true) ∧ ∃ vs, Blk w' b 36 (f.cells vs) ∧ w'.ownsRow w.heap.size 33 2 vs f.sets.length (scells f.sets)
abbrev zc (ty fl st : Nat) : Array Value := #[.int .i64 (ty : Int), .int .i64 (fl : Int), .int .i64 (st : Int), S [], .int .i64 0, .slice none 0 0, .int .i64 0, .int .i64 0, .int .i64 0, .int .i64 0, .int .i64 0, .bool false]
theorem open_rst {B b : Nat} (fl st : Nat) (p : Bytes) (v : Value) (w : World) (h : By B w v p) (hb : Blk w b 36 (zc 3 fl st)) (hl : 4 ≤ p.length) :
  Calls Tryz.prog 117 #[Ptr b, v] w (Opened w b (some { ty := 3, fl := fl, st := st, code := numF p 0 })) := by
 have hN := Num_any p v 0 w h hl;obtain ⟨m, em⟩ : ∃ m, m = numF p 0 := ⟨_, rfl⟩;rw [← em] at hN ⊢;have y0 : w.cell? ⟨b, 0, none⟩ = some (.int .i64 3) := hb.cell 0;have y6 : w.cell? ⟨b, 6, none⟩ = some (.int .i64 0) := hb.cell 6;have f6 := hb.free 6;clear em;go_enter Tryz.func117, Tryz.ntmps117
 go_wp2_with (go_at_call 114;refine hN.mono ?_;rintro e w' ⟨rfl, rfl⟩)
 go_ret;exact ⟨(But.refl (fun k => k = b) _).setCell (p := ⟨b, 6, none⟩) (.inl rfl) _, rfl, _, hb.set 6 _, World.ownsRow_nil _ _ _ _⟩
theorem open_wu {B b : Nat} (fl st : Nat) (p : Bytes) (v : Value) (w : World) (h : By B w v p) (hb : Blk w b 36 (zc 8 fl st)) (hl : 4 ≤ p.length) :
  Calls Tryz.prog 117 #[Ptr b, v] w (Opened w b (some { ty := 8, fl := fl, st := st, inc := numF p 0 % 2147483648 })) := by
 have hN := Num_any p v 0 w h hl;have hlt := numF_lt p 0;obtain ⟨m, em⟩ : ∃ m, m = numF p 0 := ⟨_, rfl⟩;rw [← em] at hN hlt ⊢;have hm := mask31 m (by omega);have y0 : w.cell? ⟨b, 0, none⟩ = some (.int .i64 8) := hb.cell 0;have y6 : w.cell? ⟨b, 8, none⟩ = some (.int .i64 0) := hb.cell 8;have f6 := hb.free 8;clear em;go_enter Tryz.func117, Tryz.ntmps117
 go_wp2_with (go_at_call 114;refine hN.mono ?_;rintro e w' ⟨rfl, rfl⟩)
 go_ret;exact ⟨(But.refl (fun k => k = b) _).setCell (p := ⟨b, 8, none⟩) (.inl rfl) _, rfl, _, hb.set 8 _, World.ownsRow_nil _ _ _ _⟩
theorem open_prio {B b : Nat} (fl st : Nat) (p : Bytes) (v : Value) (w : World) (h : By B w v p) (hb : Blk w b 36 (zc 2 fl st)) (hl : 5 ≤ p.length) :
  Calls Tryz.prog 117 #[Ptr b, v] w (Opened w b (some { ty := 2, fl := fl, st := st, dep := numF p 0 % 2147483648, wt := (p[4]'hl).toNat, sole := decide (2147483647 < numF p 0) })) := by
 have hP := Place_any p v w h hl hb;have y0 : w.cell? ⟨b, 0, none⟩ = some (.int .i64 2) := hb.cell 0;go_enter Tryz.func117, Tryz.ntmps117
 go_wp2_with (go_at_call 138;refine hP.mono ?_;rintro e w' ⟨rfl, hb', hbut⟩)
 go_ret;exact ⟨hbut, rfl, _, hb', World.ownsRow_nil _ _ _ _⟩
theorem open_else {B b : Nat} (ty fl st : Nat) (p : Bytes) (v : Value) (w : World) (h : By B w v p) (hb : Blk w b 36 (zc ty fl st)) (hty : ty = 5 ∨ ty = 6 ∨ 9 ≤ ty) :
  Calls Tryz.prog 117 #[Ptr b, v] w (Opened w b (some { ty := ty, fl := fl, st := st, data := p })) := by
 have d0 : ((ty : Int) == 0) = false := i_ne (b := 0) (by omega);have d1 : ((ty : Int) == 1) = false := i_ne (b := 1) (by omega);have d2 : ((ty : Int) == 2) = false := i_ne (b := 2) (by omega);have d3 : ((ty : Int) == 3) = false := i_ne (b := 3) (by omega);have d4 : ((ty : Int) == 4) = false := i_ne (b := 4) (by omega);have d7 : ((ty : Int) == 7) = false := i_ne (b := 7) (by omega);have d8 : ((ty : Int) == 8) = false := i_ne (b := 8) (by omega);clear hty;have y0 : w.cell? ⟨b, 0, none⟩ = some (.int .i64 ty) := hb.cell 0;have y6 : w.cell? ⟨b, 3, none⟩ = some (S []) := hb.cell 3;have f6 := hb.free 3;have hS := fun w (h : By B w v p) => h.text (P := Tryz.prog) 39 9 5 Tryz.underlying39 Tryz.underlying5 Tryz.underlying9
 replace hS := hS w h;obtain ⟨a, cap, rfl, hc, hcm⟩ := h.form;go_enter Tryz.func117, Tryz.ntmps117
 go_wp2;go_ret;exact ⟨(But.refl (fun k => k = b) _).setCell (p := ⟨b, 3, none⟩) (.inl rfl) _, rfl, _, hb.set 3 _, World.ownsRow_nil _ _ _ _⟩
theorem open_away {B b : Nat} (fl st : Nat) (p : Bytes) (v : Value) (w : World) (h : By B w v p) (hb : Blk w b 36 (zc 7 fl st)) (hl : 8 ≤ p.length) (hBb : B ≤ b) :
  Calls Tryz.prog 117 #[Ptr b, v] w (Opened w b (some { ty := 7, fl := fl, st := st, last := numF p 0 % 2147483648, code := numF p 4, data := p.drop 8 })) := by
 have hN0 := fun w (h : By B w v p) => Num_any p v 0 w h (by omega)
 have hN4 := fun w (h : By B w v p) => Num_any p v 4 w h (by omega)
 have hlt := numF_lt p 0;obtain ⟨m, em⟩ : ∃ m, m = numF p 0 := ⟨_, rfl⟩;obtain ⟨c, ec⟩ : ∃ c, c = numF p 4 := ⟨_, rfl⟩;rw [← em] at hN0 hlt ⊢;rw [← ec] at hN4 ⊢;have hm := mask31 m (by omega);obtain ⟨a, cap, rfl, hc, hcm⟩ := h.form;obtain ⟨a2, c2, hD, hsl⟩ := h.from 8 hl
 replace hsl := fun w' => (show (Instr.slice 39 (.slice a p.length cap) (some (.int .i64 8)) none none).run Tryz.prog w' = .ok (.slice a2 (p.length - 8) c2) w' from hsl w')
 have y0 : w.cell? ⟨b, 0, none⟩ = some (.int .i64 7) := hb.cell 0;have y3 : w.cell? ⟨b, 3, none⟩ = some (S []) := hb.cell 3;have y6 : w.cell? ⟨b, 6, none⟩ = some (.int .i64 0) := hb.cell 6;have y7 : w.cell? ⟨b, 7, none⟩ = some (.int .i64 0) := hb.cell 7;have f3 := hb.free 3;have f6 := hb.free 6;have f7 := hb.free 7;have hd : By B w.drew (.slice a p.length cap) p := h;replace hN0 := (show Calls Tryz.prog 114 #[.slice a p.length cap, .int .i64 0] w.drew _ from hN0 w.drew hd);replace hN4 := (show Calls Tryz.prog 114 #[.slice a p.length cap, .int .i64 4] w.drew _ from hN4 w.drew hd);clear em ec hd;go_enter Tryz.func117, Tryz.ntmps117
 go_upto_region 29 with fail
 go_region_with (first
  | (go_at_call 114;(with_reducible refine hN0.mono ?_);rintro e w' ⟨rfl, rfl⟩)
  | (go_at_call 114;(with_reducible refine hN4.mono ?_);rintro e w' ⟨rfl, rfl⟩))
 all_goals (
  have hB1 : Below B w ((w.setCell ⟨b, 7, none⟩ (.int .i64 ((m : Int) % 2147483648))).setCell ⟨b, 6, none⟩ (.int .i64 (c : Int))).drew := (((Below.refl _ _).setCell (p := ⟨b, 7, none⟩) hBb _).setCell (p := ⟨b, 6, none⟩) hBb _).drew;have hS := (hD.below hB1).text (P := Tryz.prog) 39 9 5 Tryz.underlying39 Tryz.underlying5 Tryz.underlying9;clear hN0 hN4 hD hB1 h hsl;go_wp2;go_ret;have e3 : ((m : Int) % 2147483648) = ((m % 2147483648 : Nat) : Int) := (by omega);rw [e3]
  exact ⟨((((But.refl (fun k => k = b) w).setCell (p := ⟨b, 7, none⟩) (.inl rfl) _).setCell (p := ⟨b, 6, none⟩) (.inl rfl) _).setCell (p := ⟨b, 3, none⟩) (.inl rfl) _).drew, rfl, _, ((hb.set 7 _).set 6 _).set 3 _, World.ownsRow_nil _ _ _ _⟩)
open Go.RowKit Go.Dr
theorem own_form {w : World} {base : Nat} {e : TypeId} {size : Nat} {v : Value} {n : Nat} {xs : List Value} (h : w.ownsRow base e size v n xs) : ∃ a c, v = .slice a n c := by
 rcases h.2 with ⟨rfl, h0⟩ | ⟨g, cap, cur, rfl, _⟩
 ·exact ⟨none, 0, by rw [h0]⟩
 ·exact ⟨_, _, rfl⟩
theorem but_on {S : Nat → Prop} {a b c : World} (h : But S a b) (k : Below a.heap.size b c) : But S a c :=
 ⟨k.os.trans h.os, k.tape.trans h.tape, k.output.trans h.output, Nat.le_trans h.size k.size, fun i hi hS => (k.block i hi).trans (h.block i hi hS)⟩
theorem own_dr {base : Nat} {w : World} {e : TypeId} {size : Nat} {v : Value} {n : Nat} {xs : List Value} (h : w.ownsRow base e size v n xs) : w.drew.ownsRow base e size v n xs := h
theorem open_set {B b : Nat} (fl st n : Nat) (p : Bytes) (v : Value) (w : World) (h : By B w v p) (hb : Blk w b 36 (zc 4 fl st)) (hn : p.length = 6 * n) (hpl : p.length ≤ 16777215) (hBb : B ≤ b) :
  Calls Tryz.prog 117 #[Ptr b, v] w (Opened w b (some { ty := 4, fl := fl, st := st, sets := setsK p n })) := by
 obtain ⟨a, cap, rfl, hc, hcm⟩ := h.form;have hbl := hb.lt;have y0 : w.cell? ⟨b, 0, none⟩ = some (.int .i64 4) := hb.cell 0;have HN := Lib.hid hn;clear hn;go_enter Tryz.func117, Tryz.ntmps117
 go_wp2
 go_loopw [5] (fun i wr => ∃ k vs, k ≤ n ∧ i = .int .i64 (6 * (k : Int)) ∧ Blk wr b 36 #[.int .i64 (4 : Nat), .int .i64 (fl : Nat), .int .i64 (st : Nat), S [], .int .i64 0, vs, .int .i64 0, .int .i64 0, .int .i64 0, .int .i64 0, .int .i64 0, .bool false] ∧ wr.ownsRow w.heap.size 33 2 vs k (scells (setsK p k)) ∧ But (fun k => k = b) w wr) (fun i _ => p.length - (intOf i).toNat)
 case atStart => exact ⟨0, _, Nat.zero_le _, rfl, hb, World.ownsRow_nil _ _ _ _, But.refl _ _⟩
 case round =>
  obtain ⟨k, vs, hk, rfl, hbr, hown, hbut⟩ := hrel;obtain ⟨av, cv, rfl⟩ := own_form hown;by_cases hlt : k < n
  ·have hsz := hbut.size
   have hBw : Below B w wr := hbut.below (fun _ e => by rw [e];exact hBb) (by omega);have hr := h.below hBw;have hT := oTake_any p _ (6 * k) 2 wr hr (by decide) (by decide) (by have := HN.out;omega);have hN := Num_any p _ (6 * k + 2) wr.drew hr (by have := HN.out;omega);obtain ⟨m, em⟩ : ∃ m, m = beN ((p.drop (6 * k)).take 2) := ⟨_, rfl⟩;obtain ⟨c, ec⟩ : ∃ c, c = numF p (6 * k + 2) := ⟨_, rfl⟩;have es : set1 p k = (m, c) := (by rw [em, ec];rfl)
   have hml : m < 4294967296 := by
    rw [em];refine Nat.lt_of_lt_of_le (beN_lt _) ?_;exact Nat.pow_le_pow_right (j := 4) (by decide) (by rw [List.length_take];omega)
   rw [← em] at hT;rw [← ec] at hN;have t0 : decide (6 * (k : Int) < (p.length : Int)) = true := (by have := HN.out;simp;omega);have e6 : ((6 * k : Nat) : Int) = 6 * (k : Int) := (by simp);have e7 : ((6 * k + 2 : Nat) : Int) = 6 * (k : Int) + 2 := (by simp);have tw : IntKind.i64.wrap (6 * (k : Int) + 2) = 6 * (k : Int) + 2 := IntWalk.i64_in _ (by have := HN.out;omega);have tm : IntKind.i64.wrap (m : Int) = (m : Int) := IntWalk.i64_in _ (by omega);rw [e6] at hT;rw [e7] at hN;have x5 : wr.cell? ⟨b, 5, none⟩ = some (.slice av k cv) := hbr.cell 5;have f5 := hbr.free 5;have x5a : ∀ o, (wr.alloc o).cell? ⟨b, 5, none⟩ = some _ := fun o => (hbr.alloc o).cell 5
   have hkm : k + 1 ≤ 16777215 := (by have := HN.out;omega);have ES := Lib.hid es;clear em ec es h hb hr e6 e7;go_upto_region 26 with (go_at_call 112;refine hT.mono ?_;rintro e wr ⟨rfl, rfl⟩)
   go_region_law (first
    | (go_simp;go_at_call 114;(with_reducible refine hN.mono ?_);rintro e w' ⟨rfl, rfl⟩)
    | (refine step_of ?_ (by rfl);refine wp_appG _ _ 34 rfl w.heap.size 33 (.agg #[.int .i64 0, .int .i64 0]) 2 16 Tryz.underlying34 (by kernel_rfl) rfl (by decide) _ _ _ rfl (own_dr (hown.alloc _)) _ _ _ [.int .i64 (m : Int), .int .i64 (c : Int)] rfl (Rd.drew (Rd.lit wr 33 #[.int .i64 (m : Int), .int .i64 (c : Int)] 2 1 rfl (by decide))) (scells_one [(m, c)]) (by unfold maxLen;omega) (by omega) (by simp;omega) ?_;intro a3 c3 w3 hown3 hb3 hg3;have hB3 := ((hbr.alloc (.cells #[.int .i64 (m : Int), .int .i64 (c : Int)] 33)).drew.below hb3 hbl);have z5 : w3.cell? ⟨b, 5, none⟩ = some (.slice av k cv) := hB3.cell 5;have g5 := hB3.free 5))
   all_goals (
    have hb2 : But (fun k => k = b) w (w3.setCell ⟨b, 5, none⟩ (.slice a3 (k + 1) c3)) := (but_on ((hbut.alloc _).drew) hb3).setCell (p := ⟨b, 5, none⟩) (.inl rfl) _;clear hT hN x5a hg3 hb3 x5;go_wp2
    go_roundw
    case rel => exact ⟨k + 1, _, by omega, by go_num, hB3.set 5 _, by rw [setsK_succ, scells_append, ES.out];exact ownsRow_setCell_below hown3 hbl _, hb2⟩
    case measure => have := HN.out;simp [intOf];omega)
  ·obtain rfl : k = n := by omega
   have t0 : decide (6 * (k : Int) < (p.length : Int)) = false := (by have := HN.out;simp;omega);go_wp2;go_ret;exact ⟨hbut, rfl, _, hbr, by show wr.ownsRow _ _ _ _ (setsK p k).length _;rw [setsK_length];exact hown⟩
end Go.Proofs.YtcodgfmombehoaaGreatDoor
