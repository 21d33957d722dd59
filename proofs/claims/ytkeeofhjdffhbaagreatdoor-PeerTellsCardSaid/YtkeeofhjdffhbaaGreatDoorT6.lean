/- Parts of the proof of pt_root: the texts Frm3 Frm4. -/
import Derived.Deep.DeepCutAuto
import Derived.Deep.RegionHeld3
import Derived.Deep.RegionWith
import Derived.Deep.RegionLaw
import Derived.Test.YtkeeofhjdffhbaaGreatDoorT5
set_option linter.unusedSimpArgs false
set_option linter.unusedVariables false
set_option linter.unnecessarySimpa false
namespace Go.Proofs.YtkeeofhjdffhbaaGreatDoor
open Go.RowKit Go.Dr
theorem numF_lt (l : Bytes) (k : Nat) : numF l k < 4294967296 := by
 refine Nat.lt_of_lt_of_le (beN_lt _) ?_
 exact Nat.pow_le_pow_right (j := 4) (by decide) (by rw [List.length_take];omega)
/-- what open leaves: the frame's cells;its settings in own memory;nothing else turned -/
def Opened (w : World) (b : Nat) (o : Option Fr) (e : Ending) (w' : World) : Prop :=
 But (fun k => k = b) w w' ∧ match o with
 | none => e = .returned (.bool false)
 | some f => e = .returned (.bool true) ∧ ∃ vs, Blk w' b 34 (f.cells vs) ∧ w'.ownsRow w.heap.size 31 2 vs f.sets.length (scells f.sets)
abbrev zc (ty fl st : Nat) : Array Value := #[.int .i64 (ty : Int), .int .i64 (fl : Int), .int .i64 (st : Int), S [], .int .i64 0, .slice none 0 0, .int .i64 0, .int .i64 0, .int .i64 0, .int .i64 0, .int .i64 0, .bool false]
theorem open_rst {B b : Nat} (fl st : Nat) (p : Bytes) (v : Value) (w : World) (h : By B w v p) (hb : Blk w b 34 (zc 3 fl st)) (hl : 4 ≤ p.length) :
  Calls Tryz.prog 163 #[Ptr b, v] w (Opened w b (some { ty := 3, fl := fl, st := st, code := numF p 0 })) := by
 have hN := Num_any p v 0 w h hl
 obtain ⟨m, em⟩ : ∃ m, m = numF p 0 := ⟨_, rfl⟩
 rw [← em] at hN ⊢
 have y0 : w.cell? ⟨b, 0, none⟩ = some (.int .i64 3) := hb.cell 0
 have y6 : w.cell? ⟨b, 6, none⟩ = some (.int .i64 0) := hb.cell 6
 have f6 := hb.free 6
 clear em
 go_enter Tryz.func163, Tryz.ntmps163
 go_wp2_with (go_at_call 160;refine hN.mono ?_;rintro e w' ⟨rfl, rfl⟩)
 go_ret
 exact ⟨(But.refl (fun k => k = b) _).setCell (p := ⟨b, 6, none⟩) (.inl rfl) _, rfl, _, hb.set 6 _, World.ownsRow_nil _ _ _ _⟩
theorem open_wu {B b : Nat} (fl st : Nat) (p : Bytes) (v : Value) (w : World) (h : By B w v p) (hb : Blk w b 34 (zc 8 fl st)) (hl : 4 ≤ p.length) :
  Calls Tryz.prog 163 #[Ptr b, v] w (Opened w b (some { ty := 8, fl := fl, st := st, inc := numF p 0 % 2147483648 })) := by
 have hN := Num_any p v 0 w h hl
 have hlt := numF_lt p 0
 obtain ⟨m, em⟩ : ∃ m, m = numF p 0 := ⟨_, rfl⟩
 rw [← em] at hN hlt ⊢
 have hm := mask31 m (by omega)
 have y0 : w.cell? ⟨b, 0, none⟩ = some (.int .i64 8) := hb.cell 0
 have y6 : w.cell? ⟨b, 8, none⟩ = some (.int .i64 0) := hb.cell 8
 have f6 := hb.free 8
 clear em
 go_enter Tryz.func163, Tryz.ntmps163
 go_wp2_with (go_at_call 160;refine hN.mono ?_;rintro e w' ⟨rfl, rfl⟩)
 go_ret
 exact ⟨(But.refl (fun k => k = b) _).setCell (p := ⟨b, 8, none⟩) (.inl rfl) _, rfl, _, hb.set 8 _, World.ownsRow_nil _ _ _ _⟩
theorem open_prio {B b : Nat} (fl st : Nat) (p : Bytes) (v : Value) (w : World) (h : By B w v p) (hb : Blk w b 34 (zc 2 fl st)) (hl : 5 ≤ p.length) :
  Calls Tryz.prog 163 #[Ptr b, v] w (Opened w b (some { ty := 2, fl := fl, st := st, dep := numF p 0 % 2147483648, wt := (p[4]'hl).toNat, sole := decide (2147483647 < numF p 0) })) := by
 have hP := Place_any p v w h hl hb
 have y0 : w.cell? ⟨b, 0, none⟩ = some (.int .i64 2) := hb.cell 0
 go_enter Tryz.func163, Tryz.ntmps163
 go_wp2_with (go_at_call 199;refine hP.mono ?_;rintro e w' ⟨rfl, hb', hbut⟩)
 go_ret
 exact ⟨hbut, rfl, _, hb', World.ownsRow_nil _ _ _ _⟩
set_option maxRecDepth 100000 in
set_option maxHeartbeats 2000000 in
theorem open_else {B b : Nat} (ty fl st : Nat) (p : Bytes) (v : Value) (w : World) (h : By B w v p) (hb : Blk w b 34 (zc ty fl st)) (hty : ty = 5 ∨ ty = 6 ∨ 9 ≤ ty) :
  Calls Tryz.prog 163 #[Ptr b, v] w (Opened w b (some { ty := ty, fl := fl, st := st, data := p })) := by
 have d0 : ((ty : Int) == 0) = false := i_ne (b := 0) (by omega)
 have d1 : ((ty : Int) == 1) = false := i_ne (b := 1) (by omega)
 have d2 : ((ty : Int) == 2) = false := i_ne (b := 2) (by omega)
 have d3 : ((ty : Int) == 3) = false := i_ne (b := 3) (by omega)
 have d4 : ((ty : Int) == 4) = false := i_ne (b := 4) (by omega)
 have d7 : ((ty : Int) == 7) = false := i_ne (b := 7) (by omega)
 have d8 : ((ty : Int) == 8) = false := i_ne (b := 8) (by omega)
 clear hty
 have y0 : w.cell? ⟨b, 0, none⟩ = some (.int .i64 ty) := hb.cell 0
 have y6 : w.cell? ⟨b, 3, none⟩ = some (S []) := hb.cell 3
 have f6 := hb.free 3
 have hS := fun w (h : By B w v p) => h.text (P := Tryz.prog) 26 9 5 Tryz.underlying26 Tryz.underlying5 Tryz.underlying9
 replace hS := hS w h
 obtain ⟨a, cap, rfl, hc, hcm⟩ := h.form
 go_enter Tryz.func163, Tryz.ntmps163
 go_wp2
 go_ret
 exact ⟨(But.refl (fun k => k = b) _).setCell (p := ⟨b, 3, none⟩) (.inl rfl) _, rfl, _, hb.set 3 _, World.ownsRow_nil _ _ _ _⟩
set_option maxRecDepth 100000 in
set_option maxHeartbeats 2000000 in
theorem open_away {B b : Nat} (fl st : Nat) (p : Bytes) (v : Value) (w : World) (h : By B w v p) (hb : Blk w b 34 (zc 7 fl st)) (hl : 8 ≤ p.length) (hBb : B ≤ b) :
  Calls Tryz.prog 163 #[Ptr b, v] w (Opened w b (some { ty := 7, fl := fl, st := st, last := numF p 0 % 2147483648, code := numF p 4, data := p.drop 8 })) := by
 have hN0 := fun w (h : By B w v p) => Num_any p v 0 w h (by omega)
 have hN4 := fun w (h : By B w v p) => Num_any p v 4 w h (by omega)
 have hlt := numF_lt p 0
 obtain ⟨m, em⟩ : ∃ m, m = numF p 0 := ⟨_, rfl⟩
 obtain ⟨c, ec⟩ : ∃ c, c = numF p 4 := ⟨_, rfl⟩
 rw [← em] at hN0 hlt ⊢
 rw [← ec] at hN4 ⊢
 have hm := mask31 m (by omega)
 obtain ⟨a, cap, rfl, hc, hcm⟩ := h.form
 obtain ⟨a2, c2, hD, hsl⟩ := h.from 8 hl
 replace hsl := fun w' => (show (Instr.slice 26 (.slice a p.length cap) (some (.int .i64 8)) none none).run Tryz.prog w' = .ok (.slice a2 (p.length - 8) c2) w' from hsl w')
 have y0 : w.cell? ⟨b, 0, none⟩ = some (.int .i64 7) := hb.cell 0
 have y3 : w.cell? ⟨b, 3, none⟩ = some (S []) := hb.cell 3
 have y6 : w.cell? ⟨b, 6, none⟩ = some (.int .i64 0) := hb.cell 6
 have y7 : w.cell? ⟨b, 7, none⟩ = some (.int .i64 0) := hb.cell 7
 have f3 := hb.free 3
 have f6 := hb.free 6
 have f7 := hb.free 7
 have hd : By B w.drew (.slice a p.length cap) p := h
 replace hN0 := (show Calls Tryz.prog 160 #[.slice a p.length cap, .int .i64 0] w.drew _ from hN0 w.drew hd)
 replace hN4 := (show Calls Tryz.prog 160 #[.slice a p.length cap, .int .i64 4] w.drew _ from hN4 w.drew hd)
 clear em ec hd
 go_enter Tryz.func163, Tryz.ntmps163
 go_upto_region 29 with fail
 go_region_with (first
  | (go_at_call 160;(with_reducible refine hN0.mono ?_);rintro e w' ⟨rfl, rfl⟩)
  | (go_at_call 160;(with_reducible refine hN4.mono ?_);rintro e w' ⟨rfl, rfl⟩))
 all_goals (
  have hB1 : Below B w ((w.setCell ⟨b, 7, none⟩ (.int .i64 ((m : Int) % 2147483648))).setCell ⟨b, 6, none⟩ (.int .i64 (c : Int))).drew := (((Below.refl _ _).setCell (p := ⟨b, 7, none⟩) hBb _).setCell (p := ⟨b, 6, none⟩) hBb _).drew
  have hS := (hD.below hB1).text (P := Tryz.prog) 26 9 5 Tryz.underlying26 Tryz.underlying5 Tryz.underlying9
  clear hN0 hN4 hD hB1 h hsl
  go_wp2
  go_ret
  have e3 : ((m : Int) % 2147483648) = ((m % 2147483648 : Nat) : Int) := by omega
  rw [e3]
  exact ⟨((((But.refl (fun k => k = b) w).setCell (p := ⟨b, 7, none⟩) (.inl rfl) _).setCell (p := ⟨b, 6, none⟩) (.inl rfl) _).setCell (p := ⟨b, 3, none⟩) (.inl rfl) _).drew, rfl, _, ((hb.set 7 _).set 6 _).set 3 _, World.ownsRow_nil _ _ _ _⟩)
end Go.Proofs.YtkeeofhjdffhbaaGreatDoor
namespace Go.Proofs.YtkeeofhjdffhbaaGreatDoor
open Go.RowKit Go.Dr
theorem own_form {w : World} {base : Nat} {e : TypeId} {size : Nat} {v : Value} {n : Nat} {xs : List Value} (h : w.ownsRow base e size v n xs) : ∃ a c, v = .slice a n c := by
 rcases h.2 with ⟨rfl, h0⟩ | ⟨g, cap, cur, rfl, _⟩
 ·exact ⟨none, 0, by rw [h0]⟩
 ·exact ⟨_, _, rfl⟩
theorem but_on {S : Nat → Prop} {a b c : World} (h : But S a b) (k : Below a.heap.size b c) : But S a c :=
 ⟨k.os.trans h.os, k.tape.trans h.tape, k.output.trans h.output, Nat.le_trans h.size k.size, fun i hi hS => (k.block i hi).trans (h.block i hi hS)⟩
theorem own_dr {base : Nat} {w : World} {e : TypeId} {size : Nat} {v : Value} {n : Nat} {xs : List Value} (h : w.ownsRow base e size v n xs) : w.drew.ownsRow base e size v n xs := h
set_option maxRecDepth 100000 in
set_option maxHeartbeats 4000000 in
theorem open_set {B b : Nat} (fl st n : Nat) (p : Bytes) (v : Value) (w : World) (h : By B w v p) (hb : Blk w b 34 (zc 4 fl st)) (hn : p.length = 6 * n) (hpl : p.length ≤ 16777215) (hBb : B ≤ b) :
  Calls Tryz.prog 163 #[Ptr b, v] w (Opened w b (some { ty := 4, fl := fl, st := st, sets := setsK p n })) := by
 obtain ⟨a, cap, rfl, hc, hcm⟩ := h.form
 have hbl := hb.lt
 have y0 : w.cell? ⟨b, 0, none⟩ = some (.int .i64 4) := hb.cell 0
 have HN := Lib.hid hn
 clear hn
 go_enter Tryz.func163, Tryz.ntmps163
 go_wp2
 go_loopw [5] (fun i wr => ∃ k vs, k ≤ n ∧ i = .int .i64 (6 * (k : Int)) ∧ Blk wr b 34 #[.int .i64 (4 : Nat), .int .i64 (fl : Nat), .int .i64 (st : Nat), S [], .int .i64 0, vs, .int .i64 0, .int .i64 0, .int .i64 0, .int .i64 0, .int .i64 0, .bool false] ∧ wr.ownsRow w.heap.size 31 2 vs k (scells (setsK p k)) ∧ But (fun k => k = b) w wr) (fun i _ => p.length - (intOf i).toNat)
 case atStart => exact ⟨0, _, Nat.zero_le _, rfl, hb, World.ownsRow_nil _ _ _ _, But.refl _ _⟩
 case round =>
  obtain ⟨k, vs, hk, rfl, hbr, hown, hbut⟩ := hrel
  obtain ⟨av, cv, rfl⟩ := own_form hown
  by_cases hlt : k < n
  ·have hsz := hbut.size
   have hBw : Below B w wr := hbut.below (fun _ e => by rw [e];exact hBb) (by omega)
   have hr := h.below hBw
   have hT := oTake_any p _ (6 * k) 2 wr hr (by decide) (by decide) (by have := HN.out;omega)
   have hN := Num_any p _ (6 * k + 2) wr.drew hr (by have := HN.out;omega)
   obtain ⟨m, em⟩ : ∃ m, m = beN ((p.drop (6 * k)).take 2) := ⟨_, rfl⟩
   obtain ⟨c, ec⟩ : ∃ c, c = numF p (6 * k + 2) := ⟨_, rfl⟩
   have es : set1 p k = (m, c) := by rw [em, ec];rfl
   have hml : m < 4294967296 := by
    rw [em]
    refine Nat.lt_of_lt_of_le (beN_lt _) ?_
    exact Nat.pow_le_pow_right (j := 4) (by decide) (by rw [List.length_take];omega)
   rw [← em] at hT
   rw [← ec] at hN
   have t0 : decide (6 * (k : Int) < (p.length : Int)) = true := by have := HN.out;simp;omega
   have e6 : ((6 * k : Nat) : Int) = 6 * (k : Int) := by simp
   have e7 : ((6 * k + 2 : Nat) : Int) = 6 * (k : Int) + 2 := by simp
   have tw : IntKind.i64.wrap (6 * (k : Int) + 2) = 6 * (k : Int) + 2 := IntWalk.i64_in _ (by have := HN.out;omega)
   have tm : IntKind.i64.wrap (m : Int) = (m : Int) := IntWalk.i64_in _ (by omega)
   rw [e6] at hT
   rw [e7] at hN
   have x5 : wr.cell? ⟨b, 5, none⟩ = some (.slice av k cv) := hbr.cell 5
   have f5 := hbr.free 5
   have x5a : ∀ o, (wr.alloc o).cell? ⟨b, 5, none⟩ = some _ := fun o => (hbr.alloc o).cell 5
   have hkm : k + 1 ≤ 16777215 := by have := HN.out;omega
   have ES := Lib.hid es
   clear em ec es h hb hr e6 e7
   go_upto_region 26 with (go_at_call 158;refine hT.mono ?_;rintro e wr ⟨rfl, rfl⟩)
   go_region_law (first
    | (go_simp;go_at_call 160;(with_reducible refine hN.mono ?_);rintro e w' ⟨rfl, rfl⟩)
    | (refine step_of ?_ (by rfl);refine wp_appG _ _ 32 rfl w.heap.size 31 (.agg #[.int .i64 0, .int .i64 0]) 2 16 Tryz.underlying32 (by kernel_rfl) rfl (by decide) _ _ _ rfl (own_dr (hown.alloc _)) _ _ _ [.int .i64 (m : Int), .int .i64 (c : Int)] rfl (Rd.drew (Rd.lit wr 31 #[.int .i64 (m : Int), .int .i64 (c : Int)] 2 1 rfl (by decide))) (scells_one [(m, c)]) (by unfold maxLen;omega) (by omega) (by simp;omega) ?_;intro a3 c3 w3 hown3 hb3 hg3;have hB3 := ((hbr.alloc (.cells #[.int .i64 (m : Int), .int .i64 (c : Int)] 31)).drew.below hb3 hbl);have z5 : w3.cell? ⟨b, 5, none⟩ = some (.slice av k cv) := hB3.cell 5;have g5 := hB3.free 5))
   all_goals (
    have hb2 : But (fun k => k = b) w (w3.setCell ⟨b, 5, none⟩ (.slice a3 (k + 1) c3)) := (but_on ((hbut.alloc _).drew) hb3).setCell (p := ⟨b, 5, none⟩) (.inl rfl) _
    clear hT hN x5a hg3 hb3 x5
    go_wp2
    go_roundw
    case rel => exact ⟨k + 1, _, by omega, by go_num, hB3.set 5 _, by rw [setsK_succ, scells_append, ES.out];exact ownsRow_setCell_below hown3 hbl _, hb2⟩
    case measure => have := HN.out;simp [intOf];omega)
  ·obtain rfl : k = n := by omega
   have t0 : decide (6 * (k : Int) < (p.length : Int)) = false := by have := HN.out;simp;omega
   go_wp2
   go_ret
   exact ⟨hbut, rfl, _, hbr, by show wr.ownsRow _ _ _ _ (setsK p k).length _;rw [setsK_length];exact hown⟩
end Go.Proofs.YtkeeofhjdffhbaaGreatDoor
