
/- frame.open as one contract; what frame.Take answers, as a plain function. -/
import Derived.Test.YtmbakobindjjmaaGreatDoorFrm5
namespace Go.Proofs.YtmbakobindjjmaaGreatDoor
open Go.RowKit Go.Dr

def openF (ty fl st : Nat) (p : Bytes) : Option Fr :=
  if ty = 0 ∨ ty = 1 then dhF ty fl st p
  else if ty = 2 then some { ty := 2, fl := fl, st := st, dep := numF p 0 % 2147483648, wt := ((p.drop 4).headD 0).toNat, sole := decide (2147483647 < numF p 0) }
  else if ty = 3 then some { ty := 3, fl := fl, st := st, code := numF p 0 }
  else if ty = 4 then some { ty := 4, fl := fl, st := st, sets := setsK p (p.length / 6) }
  else if ty = 7 then some { ty := 7, fl := fl, st := st, last := numF p 0 % 2147483648, code := numF p 4, data := p.drop 8 }
  else if ty = 8 then some { ty := 8, fl := fl, st := st, inc := numF p 0 % 2147483648 }
  else some { ty := ty, fl := fl, st := st, data := p }

theorem Open_any {B b : Nat} (ty fl st : Nat) (p : Bytes) (v : Value) (w : World) (h : By B w v p) (hb : Blk w b 33 (zc ty fl st)) (hfl : fl < 256) (hpl : p.length ≤ 16777215) (hz : sizeF ty fl p.length = false) (hBb : B ≤ b) :
    Calls Tryz.prog 76 #[Ptr b, v] w (Opened w b (openF ty fl st p)) := by
  have c : ty = 0 ∨ ty = 1 ∨ ty = 2 ∨ ty = 3 ∨ ty = 4 ∨ ty = 7 ∨ ty = 8 ∨ (ty = 5 ∨ ty = 6 ∨ 9 ≤ ty) := by omega
  rcases c with rfl | rfl | rfl | rfl | rfl | rfl | rfl | hx
  · have e : openF 0 fl st p = dhF 0 fl st p := rfl
    rw [e]
    by_cases h8 : (fl &&& 8 != 0) = true
    · have h1 : 1 ≤ p.length := List.length_pos_iff.2 (by simp only [sizeF, aheadF, h8] at hz; simpa using hz)
      exact open_dh010 fl st p v w h hb hfl h8 h1 hBb
    · exact open_dh000 fl st p v w h hb hfl (by simpa using h8) (Nat.zero_le _) hBb
  · have e : openF 1 fl st p = dhF 1 fl st p := rfl
    rw [e]
    by_cases h8 : (fl &&& 8 != 0) = true
    · by_cases h32 : (fl &&& 32 != 0) = true
      · have h1 : 6 ≤ p.length := by simp only [sizeF, aheadF, h8, h32] at hz; simp at hz; omega
        exact open_dh111 fl st p v w h hb hfl h8 h32 h1 hBb
      · have h1 : 1 ≤ p.length := by simp only [sizeF, aheadF, h8] at hz; simp at hz; omega
        exact open_dh110 fl st p v w h hb hfl h8 (by simpa using h32) h1 hBb
    · by_cases h32 : (fl &&& 32 != 0) = true
      · have h1 : 5 ≤ p.length := by simp only [sizeF, aheadF, h32] at hz; simp at hz; omega
        exact open_dh101 fl st p v w h hb hfl (by simpa using h8) h32 h1 hBb
      · exact open_dh100 fl st p v w h hb hfl (by simpa using h8) (by simpa using h32) (Nat.zero_le _) hBb
  · have h1 : 5 ≤ p.length := by simp [sizeF] at hz; omega
    have e : openF 2 fl st p = some { ty := 2, fl := fl, st := st, dep := numF p 0 % 2147483648, wt := (p[4]'h1).toNat, sole := decide (2147483647 < numF p 0) } := by rw [← headD_at p 4 h1]; rfl
    rw [e]
    exact open_prio fl st p v w h hb h1
  · exact open_rst fl st p v w h hb (by simp [sizeF] at hz; omega)
  · exact open_set fl st (p.length / 6) p v w h hb (by simp [sizeF] at hz; omega) hpl hBb
  · exact open_away fl st p v w h hb (by simp [sizeF] at hz; omega) hBb
  · exact open_wu fl st p v w h hb (by simp [sizeF] at hz; omega)
  · have e : openF ty fl st p = some { ty := ty, fl := fl, st := st, data := p } := by
      unfold openF
      rw [if_neg (by omega), if_neg (by omega), if_neg (by omega), if_neg (by omega), if_neg (by omega), if_neg (by omega)]
    rw [e]
    exact open_else ty fl st p v w h hb hx

def takeF (l : Bytes) (most : Nat) : Fr × Nat × Ft :=
  if l.length < 9 then ({}, 0, {})
  else if most < beN (l.take 3) then ({}, 0, { is := true, code := 6 })
  else if l.length < 9 + beN (l.take 3) then ({}, 0, {})
  else if misF ((l.drop 3).headD 0).toNat (numF l 5 % 2147483648) then ({}, 0, { is := true, code := 1 })
  else if sizeF ((l.drop 3).headD 0).toNat ((l.drop 4).headD 0).toNat (beN (l.take 3)) then
    (if ((l.drop 3).headD 0).toNat = 2 then ({}, 9 + beN (l.take 3), { is := true, code := 6, st := numF l 5 % 2147483648 }) else ({}, 0, { is := true, code := 6 }))
  else match openF ((l.drop 3).headD 0).toNat ((l.drop 4).headD 0).toNat (numF l 5 % 2147483648) ((l.take (9 + beN (l.take 3))).drop 9) with
    | none => ({}, 0, { is := true, code := 1 })
    | some f =>
      if ((l.drop 3).headD 0).toNat = 8 ∧ f.inc = 0 then (if numF l 5 % 2147483648 = 0 then ({}, 0, { is := true, code := 1 }) else ({}, 9 + beN (l.take 3), { is := true, code := 1, st := numF l 5 % 2147483648 }))
      else match unfF f.sets with
        | some c => ({}, 0, { is := true, code := c })
        | none => (f, 9 + beN (l.take 3), {})

def Ft.val (x : Ft) : Value := .agg #[.bool x.is, .int .i64 (x.code : Nat), .int .i64 (x.st : Nat)]
def RetTake (w : World) (r : Fr × Nat × Ft) (e : Ending) (w' : World) : Prop :=
  ∃ vs, e = .returned (.tuple #[.agg (r.1.cells vs), .int .i64 (r.2.1 : Nat), r.2.2.val]) ∧ w'.ownsRow w.heap.size 52 2 vs r.1.sets.length (scells r.1.sets) ∧ Below w.heap.size w w'
end Go.Proofs.YtmbakobindjjmaaGreatDoor
