
/- The walk of layer 18: whether an answer may be kept; what is asked of it. -/
import Derived.Test.YtghggooaaefdcabGreatDoorFrs2
import Derived.Test.YtghggooaaefdcabGreatDoorVar4
namespace Go.Dr
def ask2 (st : Int) : Bool := decide (200 ≤ st) && decide (st ≤ 599) && !(st == 206) && !(st == 304)
def ask3 (a b : Ctl) : Bool := !a.ns && !b.ns && !b.pr
def ask4 (lr : List F) (b : Ctl) : Bool := !hasN lr authT || b.mr || b.pu || decide (0 ≤ b.sm)
def toldB18 (b : Ctl) (lf : List F) : Bool := decide (0 ≤ b.ma) || decide (0 ≤ b.sm) || b.pu || hasN lf expiresN
def ask6 (t : Bool) (st : Int) (lf : List F) : Bool := t || knownB st && (hasN lf etagT || hasN lf lastN)
end Go.Dr
namespace Go.Proofs.YtghggooaaefdcabGreatDoor
open Go.RowKit Go.Dr
def ask5 (lf : List F) : Bool := !starred (namesOf lf)
def storF (m : Bytes) (st : Int) (lr lf : List F) : Bool := (m == [71, 69, 84]) && ask2 st && ask3 (readC lr) (readC lf) && ask4 lr (readC lf) && ask5 lf && ask6 (toldB18 (readC lf) lf) st lf

set_option linter.unusedSimpArgs false in
set_option linter.unusedVariables false in
theorem keep1_any (R : Nat) (m : Bytes) (w : World) (h : w.cell? ⟨R, 0, none⟩ = some (S m)) :
    Calls Tryz.prog 17 #[.pointer (some ⟨R, 0, none⟩)] w fun e w' => e = .returned (.bool (m == [71, 69, 84])) ∧ Below w.heap.size w w' := by
  go_enter Tryz.func17, Tryz.ntmps17
  go_wp2
  go_ret
  exact ⟨rfl, Below.refl _ _⟩

set_option linter.unusedSimpArgs false in
set_option linter.unusedVariables false in
theorem keep2_any (T : Nat) (st : Int) (w : World) (h : w.cell? ⟨T, 0, none⟩ = some (.int .i64 st)) :
    Calls Tryz.prog 18 #[.pointer (some ⟨T, 0, none⟩)] w fun e w' => e = .returned (.bool (ask2 st)) ∧ Below w.heap.size w w' := by
  have HA : Hid (ask2 st = (decide (200 ≤ st) && decide (st ≤ 599) && !(st == 206) && !(st == 304))) := rfl
  generalize ask2 st = r at *
  cases h1 : decide (200 ≤ st) <;> cases h2 : decide (st ≤ 599)
  all_goals
    go_enter Tryz.func18, Tryz.ntmps18
    go_wp2
    all_goals go_ret
    all_goals exact ⟨ret_bool (by rw [HA.out, h1, h2]; first | rfl | (simp [bne]; done) | (simp [bne, *]; done) | (simp_all [bne]; done)), Below.refl _ _⟩

set_option linter.unusedSimpArgs false in
set_option linter.unusedVariables false in
theorem keep3_any (A B : Nat) (x y z : Bool) (w : World) (h : w.cell? ⟨A, 0, none⟩ = some (.bool x)) (h1 : w.cell? ⟨B, 0, none⟩ = some (.bool y)) (h2 : w.cell? ⟨B, 4, none⟩ = some (.bool z)) :
    Calls Tryz.prog 19 #[.pointer (some ⟨A, 0, none⟩), .pointer (some ⟨B, 0, none⟩)] w fun e w' => e = .returned (.bool (!x && !y && !z)) ∧ Below w.heap.size w w' := by
  cases x <;> cases y <;> cases z
  all_goals
    go_enter Tryz.func19, Tryz.ntmps19
    go_wp2
    go_ret
    exact ⟨rfl, Below.refl _ _⟩

set_option linter.unusedSimpArgs false in
set_option linter.unusedVariables false in
theorem keep4_any (R B : Nat) (c : Ctl) (lr : List F) (v : Value) (w : World) (h : w.cell? ⟨R, 4, none⟩ = some v) (hf : Fs w.heap.size w v lr) (hl : fsum lr ≤ 1099511627776) (hB : Blk w B 29 c.cells) :
    Calls Tryz.prog 20 #[.pointer (some ⟨R, 0, none⟩), .pointer (some ⟨B, 0, none⟩)] w fun e w' => e = .returned (.bool (ask4 lr c)) ∧ Below w.heap.size w w' := by
  have HA : Hid (ask4 lr c = (!hasN lr authT || c.mr || c.pu || decide (0 ≤ c.sm))) := rfl
  have HC := Lib.hid (fun w h => frHas_any lr authT v w h hl (by decide))
  obtain ⟨p, cp, rfl, -⟩ := hf.form
  obtain ⟨ns, nc, nt, pu, pr, mr, px, oi, ma, sm, mf, ms⟩ := c
  simp only at HA
  generalize ask4 lr ⟨ns, nc, nt, pu, pr, mr, px, oi, ma, sm, mf, ms⟩ = r at *
  generalize hasN lr authT = hn at *
  go_enter Tryz.func20, Tryz.ntmps20
  go_wp2_with fail
  refine (HC.out w hf).mono ?_
  rintro e w1 ⟨rfl, hb1⟩
  have hB1 := hB.on hb1
  have x5 : w1.cell? ⟨B, 5, none⟩ = some (.bool mr) := hB1.cell 5
  have x3 : w1.cell? ⟨B, 3, none⟩ = some (.bool pu) := hB1.cell 3
  have x9 : w1.cell? ⟨B, 9, none⟩ = some (.int .i64 sm) := hB1.cell 9
  clear h hB hB1 hf HC
  cases hn <;> cases mr <;> cases pu
  all_goals
    go_wp2
    go_ret
    exact ⟨ret_bool (by rw [HA.out]; simp), hb1⟩

set_option linter.unusedSimpArgs false in
set_option linter.unusedVariables false in
theorem keep5_any (L : Nat) (lf : List F) (v : Value) (w : World) (h : w.cell? ⟨L, 0, none⟩ = some v) (hf : Fs w.heap.size w v lf) (hl : fsum lf ≤ 1099511627776) :
    Calls Tryz.prog 21 #[.pointer (some ⟨L, 0, none⟩)] w fun e w' => e = .returned (.bool (ask5 lf)) ∧ Below w.heap.size w w' := by
  have HC := Lib.hid (fun w h => Names_any lf v w h hl)
  obtain ⟨p, cp, rfl, -⟩ := hf.form
  have HA : Hid (ask5 lf = !starred (namesOf lf)) := rfl
  generalize ask5 lf = r at *
  go_enter Tryz.func21, Tryz.ntmps21
  go_wp2_with fail
  refine (HC.out w hf).mono ?_
  rintro e w1 ⟨vn, rfl, hvn, hb1⟩
  generalize starred (namesOf lf) = st at *
  go_wp2
  go_ret
  exact ⟨ret_bool HA.out.symm, hb1⟩

set_option linter.unusedSimpArgs false in
set_option linter.unusedVariables false in
theorem keep6_any (C T L : Nat) (t : Bool) (st : Int) (lf : List F) (v : Value) (w : World) (hC : w.cell? ⟨C, 0, none⟩ = some (.bool t)) (hT : w.cell? ⟨T, 0, none⟩ = some (.int .i64 st)) (hL : One w L 22 v) (hf : Fs w.heap.size w v lf) (hl : fsum lf ≤ 1099511627776) :
    Calls Tryz.prog 23 #[.pointer (some ⟨C, 0, none⟩), .pointer (some ⟨T, 0, none⟩), .pointer (some ⟨L, 0, none⟩)] w fun e w' => e = .returned (.bool (ask6 t st lf)) ∧ Below w.heap.size w w' := by
  have HA : Hid (ask6 t st lf = (t || knownB st && (hasN lf etagT || hasN lf lastN))) := rfl
  have HE := Lib.hid (fun w h => frHas_any lf etagT v w h hl (by decide))
  have HL := Lib.hid (fun w h => frHas_any lf lastN v w h hl (by decide))
  have HK := Lib.hid (fun w => known_any st w)
  obtain ⟨p, cp, rfl, -⟩ := hf.form
  have hc : w.cell? ⟨L, 0, none⟩ = some (.slice p lf.length cp) := hL.cell
  generalize ask6 t st lf = r at *
  generalize hasN lf etagT = he at *
  generalize hasN lf lastN = hm at *
  generalize knownB st = kn at *
  cases t with
  | true =>
    go_enter Tryz.func23, Tryz.ntmps23
    go_wp2
    go_ret
    exact ⟨ret_bool (by rw [HA.out]; rfl), Below.refl _ _⟩
  | false =>
  go_enter Tryz.func23, Tryz.ntmps23
  go_wp2_with fail
  refine (HK.out w).mono ?_
  rintro e w1 ⟨rfl, rfl⟩
  cases kn with
  | false =>
    go_wp2
    go_ret
    exact ⟨ret_bool (by rw [HA.out]; rfl), Below.refl _ _⟩
  | true =>
  go_wp2_with fail
  refine (HE.out _ hf).mono ?_
  rintro e w2 ⟨rfl, hb2⟩
  cases he with
  | true =>
    go_wp2
    go_ret
    exact ⟨ret_bool (by rw [HA.out]; rfl), hb2⟩
  | false =>
  have hf2 := (hf.below hb2).mono hb2.size
  have hc2 : w2.cell? ⟨L, 0, none⟩ = some (.slice p lf.length cp) := (hL.below hb2 hL.lt).cell
  clear hC hT hL hc hf
  go_wp2_with fail
  refine (HL.out _ hf2).mono ?_
  rintro e w3 ⟨rfl, hb3⟩
  go_wp2
  go_ret
  exact ⟨ret_bool (by rw [HA.out]; cases hm <;> rfl), Bl.tr hb2 hb3⟩
end Go.Proofs.YtghggooaaefdcabGreatDoor
