
/- The walk of frame.open: what a payload says, by the frame's type. -/
import Derived.Test.YtmbakobindjjmaaGreatDoorFrm2
import Derived.Deep.DeepCutAuto
import Derived.Deep.RegionHeld3
import Derived.Deep.RegionWith
namespace Go.Proofs.YtmbakobindjjmaaGreatDoor
open Go.RowKit Go.Dr

theorem numF_lt (l : Bytes) (k : Nat) : numF l k < 4294967296 := by
  refine Nat.lt_of_lt_of_le (beN_lt _) ?_
  exact Nat.pow_le_pow_right (j := 4) (by decide) (by rw [List.length_take]; omega)

/-- what open leaves: the frame's cells; its settings in own memory; nothing else turned -/
def Opened (w : World) (b : Nat) (o : Option Fr) (e : Ending) (w' : World) : Prop :=
  But (fun k => k = b) w w' ∧ match o with
  | none => e = .returned (.bool false)
  | some f => e = .returned (.bool true) ∧ ∃ vs, Blk w' b 33 (f.cells vs) ∧ w'.ownsRow w.heap.size 52 2 vs f.sets.length (scells f.sets)

abbrev zc (ty fl st : Nat) : Array Value := #[.int .i64 (ty : Int), .int .i64 (fl : Int), .int .i64 (st : Int), S [], .int .i64 0, .slice none 0 0, .int .i64 0, .int .i64 0, .int .i64 0, .int .i64 0, .int .i64 0, .bool false]

theorem open_rst {B b : Nat} (fl st : Nat) (p : Bytes) (v : Value) (w : World) (h : By B w v p) (hb : Blk w b 33 (zc 3 fl st)) (hl : 4 ≤ p.length) :
    Calls Tryz.prog 76 #[Ptr b, v] w (Opened w b (some { ty := 3, fl := fl, st := st, code := numF p 0 })) := by
  have hN := Num_any p v 0 w h hl
  obtain ⟨m, em⟩ : ∃ m, m = numF p 0 := ⟨_, rfl⟩
  rw [← em] at hN ⊢
  have y0 : w.cell? ⟨b, 0, none⟩ = some (.int .i64 3) := hb.cell 0
  have y6 : w.cell? ⟨b, 6, none⟩ = some (.int .i64 0) := hb.cell 6
  have f6 := hb.free 6
  clear em
  go_enter Tryz.func76, Tryz.ntmps76
  go_wp2_with (go_at_call 73; refine hN.mono ?_; rintro e w' ⟨rfl, rfl⟩)
  go_ret
  exact ⟨(But.refl (fun k => k = b) _).setCell (p := ⟨b, 6, none⟩) (.inl rfl) _, rfl, _, hb.set 6 _, World.ownsRow_nil _ _ _ _⟩

theorem open_wu {B b : Nat} (fl st : Nat) (p : Bytes) (v : Value) (w : World) (h : By B w v p) (hb : Blk w b 33 (zc 8 fl st)) (hl : 4 ≤ p.length) :
    Calls Tryz.prog 76 #[Ptr b, v] w (Opened w b (some { ty := 8, fl := fl, st := st, inc := numF p 0 % 2147483648 })) := by
  have hN := Num_any p v 0 w h hl
  have hlt := numF_lt p 0
  obtain ⟨m, em⟩ : ∃ m, m = numF p 0 := ⟨_, rfl⟩
  rw [← em] at hN hlt ⊢
  have hm := mask31 m (by omega)
  have y0 : w.cell? ⟨b, 0, none⟩ = some (.int .i64 8) := hb.cell 0
  have y6 : w.cell? ⟨b, 8, none⟩ = some (.int .i64 0) := hb.cell 8
  have f6 := hb.free 8
  clear em
  go_enter Tryz.func76, Tryz.ntmps76
  go_wp2_with (go_at_call 73; refine hN.mono ?_; rintro e w' ⟨rfl, rfl⟩)
  go_ret
  exact ⟨(But.refl (fun k => k = b) _).setCell (p := ⟨b, 8, none⟩) (.inl rfl) _, rfl, _, hb.set 8 _, World.ownsRow_nil _ _ _ _⟩

theorem open_prio {B b : Nat} (fl st : Nat) (p : Bytes) (v : Value) (w : World) (h : By B w v p) (hb : Blk w b 33 (zc 2 fl st)) (hl : 5 ≤ p.length) :
    Calls Tryz.prog 76 #[Ptr b, v] w (Opened w b (some { ty := 2, fl := fl, st := st, dep := numF p 0 % 2147483648, wt := (p[4]'hl).toNat, sole := decide (2147483647 < numF p 0) })) := by
  have hP := Place_any p v w h hl hb
  have y0 : w.cell? ⟨b, 0, none⟩ = some (.int .i64 2) := hb.cell 0
  go_enter Tryz.func76, Tryz.ntmps76
  go_wp2_with (go_at_call 88; refine hP.mono ?_; rintro e w' ⟨rfl, hb', hbut⟩)
  go_ret
  exact ⟨hbut, rfl, _, hb', World.ownsRow_nil _ _ _ _⟩

set_option maxRecDepth 100000 in
set_option maxHeartbeats 2000000 in
theorem open_else {B b : Nat} (ty fl st : Nat) (p : Bytes) (v : Value) (w : World) (h : By B w v p) (hb : Blk w b 33 (zc ty fl st)) (hty : ty = 5 ∨ ty = 6 ∨ 9 ≤ ty) :
    Calls Tryz.prog 76 #[Ptr b, v] w (Opened w b (some { ty := ty, fl := fl, st := st, data := p })) := by
  have d0 : ((ty : Int) == 0) = false := i_ne (b := 0) (by omega)
  have d1 : ((ty : Int) == 1) = false := i_ne (b := 1) (by omega)
  have d2 : ((ty : Int) == 2) = false := i_ne (b := 2) (by omega)
  have d3 : ((ty : Int) == 3) = false := i_ne (b := 3) (by omega)
  have d4 : ((ty : Int) == 4) = false := i_ne (b := 4) (by omega)
  have d7 : ((ty : Int) == 7) = false := i_ne (b := 7) (by omega)
  have d8 : ((ty : Int) == 8) = false := i_ne (b := 8) (by omega)
  clear hty
  have y0 : w.cell? ⟨b, 0, none⟩ = some (.int .i64 ty) := hb.cell 0
  have y6 : w.cell? ⟨b, 3, none⟩ = some (S []) := hb.cell 3
  have f6 := hb.free 3
  have hS := fun w (h : By B w v p) => h.text (P := Tryz.prog) 28 9 5 Tryz.underlying28 Tryz.underlying5 Tryz.underlying9
  replace hS := hS w h
  obtain ⟨a, cap, rfl, hc, hcm⟩ := h.form
  go_enter Tryz.func76, Tryz.ntmps76
  go_wp2
  go_ret
  exact ⟨(But.refl (fun k => k = b) _).setCell (p := ⟨b, 3, none⟩) (.inl rfl) _, rfl, _, hb.set 3 _, World.ownsRow_nil _ _ _ _⟩

set_option maxRecDepth 100000 in
set_option maxHeartbeats 2000000 in
theorem open_away {B b : Nat} (fl st : Nat) (p : Bytes) (v : Value) (w : World) (h : By B w v p) (hb : Blk w b 33 (zc 7 fl st)) (hl : 8 ≤ p.length) (hBb : B ≤ b) :
    Calls Tryz.prog 76 #[Ptr b, v] w (Opened w b (some { ty := 7, fl := fl, st := st, last := numF p 0 % 2147483648, code := numF p 4, data := p.drop 8 })) := by
  have hN0 := fun w (h : By B w v p) => Num_any p v 0 w h (by omega)
  have hN4 := fun w (h : By B w v p) => Num_any p v 4 w h (by omega)
  have hlt := numF_lt p 0
  obtain ⟨m, em⟩ : ∃ m, m = numF p 0 := ⟨_, rfl⟩
  obtain ⟨c, ec⟩ : ∃ c, c = numF p 4 := ⟨_, rfl⟩
  rw [← em] at hN0 hlt ⊢
  rw [← ec] at hN4 ⊢
  have hm := mask31 m (by omega)
  obtain ⟨a, cap, rfl, hc, hcm⟩ := h.form
  obtain ⟨a2, c2, hD, hsl⟩ := h.from 8 hl
  replace hsl := fun w' => (show (Instr.slice 28 (.slice a p.length cap) (some (.int .i64 8)) none none).run Tryz.prog w' = .ok (.slice a2 (p.length - 8) c2) w' from hsl w')
  have y0 : w.cell? ⟨b, 0, none⟩ = some (.int .i64 7) := hb.cell 0
  have y3 : w.cell? ⟨b, 3, none⟩ = some (S []) := hb.cell 3
  have y6 : w.cell? ⟨b, 6, none⟩ = some (.int .i64 0) := hb.cell 6
  have y7 : w.cell? ⟨b, 7, none⟩ = some (.int .i64 0) := hb.cell 7
  have f3 := hb.free 3
  have f6 := hb.free 6
  have f7 := hb.free 7
  have hd : By B w.drew (.slice a p.length cap) p := h
  replace hN0 := (show Calls Tryz.prog 73 #[.slice a p.length cap, .int .i64 0] w.drew _ from hN0 w.drew hd)
  replace hN4 := (show Calls Tryz.prog 73 #[.slice a p.length cap, .int .i64 4] w.drew _ from hN4 w.drew hd)
  clear em ec hd
  go_enter Tryz.func76, Tryz.ntmps76
  go_upto_region 29 with fail
  go_region_with (first
    | (go_at_call 73; (with_reducible refine hN0.mono ?_); rintro e w' ⟨rfl, rfl⟩)
    | (go_at_call 73; (with_reducible refine hN4.mono ?_); rintro e w' ⟨rfl, rfl⟩))
  all_goals (
    have hB1 : Below B w ((w.setCell ⟨b, 7, none⟩ (.int .i64 ((m : Int) % 2147483648))).setCell ⟨b, 6, none⟩ (.int .i64 (c : Int))).drew := (((Below.refl _ _).setCell (p := ⟨b, 7, none⟩) hBb _).setCell (p := ⟨b, 6, none⟩) hBb _).drew
    have hS := (hD.below hB1).text (P := Tryz.prog) 28 9 5 Tryz.underlying28 Tryz.underlying5 Tryz.underlying9
    clear hN0 hN4 hD hB1 h hsl
    go_wp2
    go_ret
    have e3 : ((m : Int) % 2147483648) = ((m % 2147483648 : Nat) : Int) := by omega
    rw [e3]
    exact ⟨((((But.refl (fun k => k = b) w).setCell (p := ⟨b, 7, none⟩) (.inl rfl) _).setCell (p := ⟨b, 6, none⟩) (.inl rfl) _).setCell (p := ⟨b, 3, none⟩) (.inl rfl) _).drew, rfl, _, ((hb.set 7 _).set 6 _).set 3 _, World.ownsRow_nil _ _ _ _⟩)
end Go.Proofs.YtmbakobindjjmaaGreatDoor
