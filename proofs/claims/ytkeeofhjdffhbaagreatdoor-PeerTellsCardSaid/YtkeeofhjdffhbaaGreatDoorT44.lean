/- Parts of the proof of pt_root: the texts PtK. -/
import Derived.Test.YtkeeofhjdffhbaaGreatDoorT43
set_option linter.unusedSimpArgs false
set_option linter.unusedVariables false
set_option linter.unnecessarySimpa false
namespace Go.Proofs.YtkeeofhjdffhbaaGreatDoor
open Go Go.RowKit Go.Dr
section
variable {p fo fi o d m t s m1 m2 : Nat}
set_option maxRecDepth 100000 in
set_option maxHeartbeats 4000000 in
/-- settings, a head of two fields, data -/
theorem Got_tells {q : Pt} {l : Bytes} (hl : l.length ≤ 16384) (hq : q.first = true) (hh : q.hd = false) (hcl : q.closed = false) (h0 : q.bad = 0) (ha : (l.length : Int) ≤ q.all) (hx : (l.length : Int) = 0 ∨ (l.length : Int) ≤ q.beg + q.x) (ha2 : q.all < 4294967296) (hb1 : 0 ≤ q.beg) (hbg2 : q.beg < 4294967296) (hx1 : -4294967296 < q.x) (hx2 : q.x < 4294967296)
  (vb : Value) (w : World) (h : Pz w p fo fi o d m t s m1 m2 q) (hB : By w.heap.size w vb (frB 4 0 0 [] ++ (frB 1 4 1 blkAb ++ frB 0 0 1 l))) :
  Calls Tryz.prog 13 #[Ptr p, vb] w fun e w' => e = .returned (.int .i64 0) ∧ But (fun g => g = p ∨ g = o ∨ g = s ∨ g = fi ∨ (g = t ∨ g = m1 ∨ g = m2)) w w' ∧ Pz w' p fo fi o d m t s m1 m2 (gotE { q with first := false, hd := true, body := [], e := false } l false) := by
 have hlen : (frB 4 0 0 [] ++ (frB 1 4 1 blkAb ++ frB 0 0 1 l)).length = 33 + l.length := by simp only [List.length_append, frB_length, List.length_nil, List.length_cons];omega
 obtain ⟨all, beg, sets, x, first, hd, body, e0, aw, cl, bad⟩ := q
 simp only at hq hh h0 ha hx ha2 hb1 hbg2 hx1 hx2 hcl
 subst hq hh h0 hcl
 let q1 : Pt := ⟨all, beg, sets, x, false, false, body, e0, aw, false, 0⟩
 let q2 : Pt := ⟨all, beg, sets, x, false, true, [], false, aw, false, 0⟩
 refine (Got_pt (p := p) (fo := fo) (fi := fi) (o := o) (d := d) (m := m) (t := t) (s := s) (m1 := m1) (m2 := m2) (fun k j => match k with | 0 => (if j ≤ 2 then ⟨all, beg, sets, x, true, false, body, e0, aw, false, 0⟩ else q1) | 1 => (if j ≤ 6 then q1 else q2) | 2 => (if j ≤ 5 then q2 else gotE q2 l false) | _ => gotE q2 l false) ?_ ?_ _ vb w h hB (by omega)
  [({ ty := 4 }, {}), ({ ty := 1, fl := 4, st := 1, data := blkAb }, {}), ({ ty := 0, fl := 0, st := 1, data := l }, {})] (itemsF_3 tk_set0 (tk_head blkAb (by decide) 4 (.inl rfl)) (tk_dat l (by omega) 0 (.inl rfl)) (by decide) (by omega)) (fun g => g = t ∨ g = m1 ∨ g = m2) ?_).mono ?_
 ·intro k
  match k with
  | 0 => rfl
  | 1 => rfl
  | 2 => rfl
  | _ + 3 => rfl
 ·intro k j hne
  exfalso
  apply hne
  match k with
  | 0 => simp only;split <;> rfl
  | 1 => simp only;split <;> rfl
  | 2 => simp only;split <;> rfl
  | _ + 3 => rfl
 ·intro k j w' vs hP hb0 hj hk hrow
  match k, hk with
  | 0, _ => exact az_set (q := ⟨all, beg, sets, x, true, false, body, e0, aw, false, 0⟩) rfl rfl rfl rfl j hj hP hrow
  | 1, _ => exact az_head (q := q1) rfl rfl rfl rfl (fun g hg => hg) j hj hP hrow
  | 2, _ => exact az_data (q := q2) 0 false (.inl ⟨rfl, rfl⟩) hl rfl rfl rfl rfl rfl (Nat.zero_le _) ha hx ha2 hb1 hbg2 hx1 hx2 j hj hP hrow
 ·rintro e w' ⟨rfl, h1, h2⟩
  exact ⟨rfl, h1, h2⟩
set_option maxRecDepth 100000 in
set_option maxHeartbeats 4000000 in
/-- data behind the end -/
theorem Got_dead {q : Pt} (hq : q.first = false) (hh : q.hd = true) (he : q.e = true) (hcl : q.closed = false) (h0 : q.bad = 0) (vb : Value) (w : World) (h : Pz w p fo fi o d m t s m1 m2 q) (hB : By w.heap.size w vb (frB 0 1 1 [])) :
  Calls Tryz.prog 13 #[Ptr p, vb] w fun e w' => e = .returned (.int .i64 241) ∧ But (fun g => g = p ∨ g = o ∨ g = s ∨ g = fi ∨ False) w w' := by
 obtain ⟨all, beg, sets, x, first, hd, body, e0, aw, cl, bad⟩ := q
 simp only at hq hh h0 hcl he
 subst hq hh h0 hcl he
 refine Got_bad (by decide) 4 (by decide) rfl (tk_dat [] (by decide) 1 (.inr rfl)) (by decide) rfl vb w h hB (fun j w' vs hj hP hrow => ?_) (fun w' vs hP hrow => ?_)
 all_goals
  obtain ⟨b, hrow⟩ := hrow
  obtain ⟨sa, sc, rfl⟩ := own_form hrow
  obtain ⟨or, en, bl, hB', ho⟩ := hP.blk
  obtain ⟨v, hS, hv⟩ := hP.side
 ·match j, hj with
  | 0, _ => exact az_b hP rfl (after_ok (closed := false) w' hB')
  | 1, _ => exact az_b hP rfl (formed_D1 (frames := 0) (ty := 0) (fl := 0) (pad := 0) (xi := false) (da := []) (sn := 0) [] (by decide) w' hB')
  | 2, _ => exact az_p (q' := ⟨all, beg, sets, x, false, true, body, true, aw, false, 0⟩) hP rfl rfl rfl rfl rfl ho (pieces_on (of := 0) (first := false) (ty := 0) w' hB')
  | 3, _ => exact az_b hP rfl (whole_D1 (ty := 0) (fl := 0) w' hB')
 ·exact streams_dead w' hB' rfl hP.map hS rfl rfl rfl
set_option maxRecDepth 100000 in
set_option maxHeartbeats 4000000 in
/-- a reset of another stream -/
theorem Got_other {q : Pt} (hq : q.first = false) (hcl : q.closed = false) (h0 : q.bad = 0) (vb : Value) (w : World) (h : Pz w p fo fi o d m t s m1 m2 q) (hB : By w.heap.size w vb (frB 3 0 3 (beP 0 4))) :
  Calls Tryz.prog 13 #[Ptr p, vb] w fun e w' => e = .returned (.int .i64 241) ∧ But (fun g => g = p ∨ g = o ∨ g = s ∨ g = fi ∨ False) w w' := by
 obtain ⟨all, beg, sets, x, first, hd, body, e0, aw, cl, bad⟩ := q
 simp only at hq h0 hcl
 subst hq h0 hcl
 refine Got_bad (f := { ty := 3, st := 3 }) (by decide) 4 (by decide) rfl ⟨by decide, by decide, by decide, by decide, by decide, by decide, by first | rfl | kernel_rfl, by decide, by decide⟩ (by decide) rfl vb w h hB (fun j w' vs hj hP hrow => ?_) (fun w' vs hP hrow => ?_)
 all_goals
  obtain ⟨b, hrow⟩ := hrow
  obtain ⟨sa, sc, rfl⟩ := own_form hrow
  obtain ⟨or, en, bl, hB', ho⟩ := hP.blk
 ·match j, hj with
  | 0, _ => exact az_b hP rfl (after_ok (closed := false) w' hB')
  | 1, _ => exact az_b hP rfl (formed_R (frames := 0) (ty := 0) (fl := 0) (pad := 0) (xi := false) (da := []) (sn := 0) w' hB')
  | 2, _ => exact az_p (q' := ⟨all, beg, sets, x, false, hd, body, e0, aw, false, 0⟩) hP rfl rfl rfl rfl rfl ho (pieces_R (of := 0) (first := false) (ty := 0) w' hB')
  | 3, _ => exact az_b hP rfl (whole_R (ty := 0) (fl := 0) w' hB')
 ·exact streams_R w' hB' rfl hP.map
set_option maxRecDepth 100000 in
set_option maxHeartbeats 4000000 in
/-- something behind the end of the connection -/
theorem Got_after {q : Pt} (hcl : q.closed = true) (h0 : q.bad = 0) (vb : Value) (w : World) (h : Pz w p fo fi o d m t s m1 m2 q) (hB : By w.heap.size w vb (frB 8 0 0 (beP 1 4))) :
  Calls Tryz.prog 13 #[Ptr p, vb] w fun e w' => e = .returned (.int .i64 244) ∧ But (fun g => g = p ∨ g = o ∨ g = s ∨ g = fi ∨ False) w w' := by
 obtain ⟨all, beg, sets, x, first, hd, body, e0, aw, cl, bad⟩ := q
 simp only at h0 hcl
 subst h0 hcl
 refine Got_bad (f := { ty := 8, inc := 1 }) (by decide) 0 (by decide) rfl ⟨by decide, by decide, by decide, by decide, by decide, by decide, by first | rfl | kernel_rfl, by decide, by decide⟩ (by decide) rfl vb w h hB (fun j w' vs hj hP hrow => absurd hj (Nat.not_lt_zero _)) (fun w' vs hP hrow => ?_)
 obtain ⟨b, hrow⟩ := hrow
 obtain ⟨sa, sc, rfl⟩ := own_form hrow
 obtain ⟨or, en, bl, hB', ho⟩ := hP.blk
 exact after_over (closed := true) w' hB'
set_option maxRecDepth 100000 in
set_option maxHeartbeats 4000000 in
/-- data in a frame that is too long -/
theorem Got_long {q : Pt} {l : Bytes} (hl : 16384 < l.length) (hl2 : l.length ≤ 1000000) (hcl : q.closed = false) (h0 : q.bad = 0) (vb : Value) (w : World) (h : Pz w p fo fi o d m t s m1 m2 q) (hB : By w.heap.size w vb (frB 0 0 1 l)) :
  Calls Tryz.prog 13 #[Ptr p, vb] w fun e w' => e = .returned (.int .i64 240) ∧ But (fun g => g = p ∨ g = o ∨ g = s ∨ g = fi ∨ False) w w' := by
 obtain ⟨all, beg, sets, x, first, hd, body, e0, aw, cl, bad⟩ := q
 simp only at h0 hcl
 subst h0 hcl
 refine Got_bad (by decide) 1 (by decide) rfl (tk_dat l (by omega) 0 (.inl rfl)) hl2 rfl vb w h hB (fun j w' vs hj hP hrow => ?_) (fun w' vs hP hrow => ?_)
 all_goals
  obtain ⟨b, hrow⟩ := hrow
  obtain ⟨sa, sc, rfl⟩ := own_form hrow
  obtain ⟨or, en, bl, hB', ho⟩ := hP.blk
 ·match j, hj with
  | 0, _ => exact az_b hP rfl (after_ok (closed := false) w' hB')
 ·exact formed_L (frames := 0) (ty := 0) (fl := 0) (pad := 0) (xi := false) (da := []) (sn := 0) l (by omega) hl w' hB'
set_option maxRecDepth 100000 in
set_option maxHeartbeats 4000000 in
/-- data above the window -/
theorem Got_above {q : Pt} {l : Bytes} (hl : l.length ≤ 16384) (hn : 0 < l.length) (hq : q.first = false) (hh : q.hd = true) (he : q.e = false) (hcl : q.closed = false) (h0 : q.bad = 0) (ha : q.all < l.length ∨ q.beg + q.x < l.length) (hb1 : 0 ≤ q.beg) (hbg2 : q.beg < 4294967296) (hx1 : -4294967296 < q.x) (hx2 : q.x < 4294967296) (vb : Value) (w : World) (h : Pz w p fo fi o d m t s m1 m2 q) (hB : By w.heap.size w vb (frB 0 0 1 l)) :
  Calls Tryz.prog 13 #[Ptr p, vb] w fun e w' => e = .returned (.int .i64 243) ∧ But (fun g => g = p ∨ g = o ∨ g = s ∨ g = fi ∨ False) w w' := by
 obtain ⟨all, beg, sets, x, first, hd, body, e0, aw, cl, bad⟩ := q
 simp only at hq hh h0 hcl he ha hb1 hbg2 hx1 hx2
 subst hq hh h0 hcl he
 refine Got_bad (by decide) 5 (by decide) rfl (tk_dat l (by omega) 0 (.inl rfl)) (by omega) rfl vb w h hB (fun j w' vs hj hP hrow => ?_) (fun w' vs hP hrow => ?_)
 all_goals
  obtain ⟨b, hrow⟩ := hrow
  obtain ⟨sa, sc, rfl⟩ := own_form hrow
  obtain ⟨or, en, bl, hB', ho⟩ := hP.blk
  obtain ⟨v, hS, hv⟩ := hP.side
 ·match j, hj with
  | 0, _ => exact az_b hP rfl (after_ok (closed := false) w' hB')
  | 1, _ => exact az_b hP rfl (formed_dat (frames := 0) (ty := 0) (fl := 0) (pad := 0) (xi := false) (da := []) (sn := 0) l hl w' hB')
  | 2, _ => exact az_p (q' := ⟨all, beg, sets, x, false, true, body, false, aw, false, 0⟩) hP rfl rfl rfl rfl rfl ho (pieces_on (of := 0) (first := false) (ty := 0) w' hB')
  | 3, _ => exact az_b hP rfl (whole_data (ty := 0) (fl := 0) w' hB')
  | 4, _ => exact az_b hP rfl (streams_dat w' hB' rfl hP.map hS rfl rfl rfl)
 ·exact data_no (l := l) w' hB' rfl rfl rfl hP.off hl hn ha hb1 hbg2 hx1 hx2
set_option maxRecDepth 100000 in
set_option maxHeartbeats 4000000 in
/-- the connection's end is told -/
theorem Got_away {q : Pt} (hq : q.first = false) (hcl : q.closed = false) (h0 : q.bad = 0) (haw : 1 ≤ q.away) (vb : Value) (w : World) (h : Pz w p fo fi o d m t s m1 m2 q) (hB : By w.heap.size w vb (frB 7 0 0 (beP 1 4 ++ beP 1 4))) :
  Calls Tryz.prog 13 #[Ptr p, vb] w fun e w' => e = .returned (.int .i64 0) ∧ But (fun g => g = p ∨ g = o ∨ g = s ∨ g = fi ∨ False) w w' ∧ Pz w' p fo fi o d m t s m1 m2 { q with away := 1, closed := true } := by
 obtain ⟨all, beg, sets, x, first, hd, body, e0, aw, cl, bad⟩ := q
 simp only at hq h0 hcl haw
 subst hq h0 hcl
 let q1 : Pt := ⟨all, beg, sets, x, false, hd, body, e0, 1, true, 0⟩
 have hlen := frB_length 7 0 0 (beP 1 4 ++ beP 1 4)
 refine (Got_pt (p := p) (fo := fo) (fi := fi) (o := o) (d := d) (m := m) (t := t) (s := s) (m1 := m1) (m2 := m2) (fun k j => if k = 0 then (if j ≤ 3 then ⟨all, beg, sets, x, false, hd, body, e0, aw, false, 0⟩ else q1) else q1) ?_ ?_ _ vb w h hB (by rw [hlen];decide) [({ ty := 7, last := 1, code := 1 }, {})] (itemsF_1 (f := { ty := 7, last := 1, code := 1 }) ⟨by decide, by decide, by decide, by decide, by decide, by decide, by first | rfl | kernel_rfl, by decide, by decide⟩ (by decide) (by rw [hlen];decide)) (fun _ => False) ?_).mono ?_
 ·intro k
  rcases k with _ | k <;> rfl
 ·intro k j hne
  exfalso
  apply hne
  show (if k = 0 then (if j ≤ 3 then (⟨all, beg, sets, x, false, hd, body, e0, aw, false, 0⟩ : Pt) else q1) else q1).bad = 0
  split
  ·split <;> rfl
  ·rfl
 ·intro k j w' vs hP hb0 hj hk hrow
  obtain rfl : k = 0 := by simpa using hk
  obtain ⟨b, hrow⟩ := hrow
  have hrow : w'.ownsRow b 31 2 vs 0 [] := hrow
  obtain ⟨sa, sc, rfl⟩ := own_form hrow
  match j, hj with
  | 0, _ => obtain ⟨or, en, bl, hB', ho⟩ := hP.blk;exact az_b hP rfl (after_ok (closed := false) w' hB')
  | 1, _ => obtain ⟨or, en, bl, hB', ho⟩ := hP.blk;exact az_b hP rfl (formed_G (frames := 0) (ty := 0) (fl := 0) (pad := 0) (xi := false) (da := []) (sn := 0) w' hB')
  | 2, _ => obtain ⟨or, en, bl, hB', ho⟩ := hP.blk;exact az_p (q' := ⟨all, beg, sets, x, false, hd, body, e0, aw, false, 0⟩) hP rfl rfl rfl rfl rfl ho (pieces_G (of := 0) (first := false) (ty := 0) w' hB')
  | 3, _ => obtain ⟨or, en, bl, hB', ho⟩ := hP.blk;exact az_p (q' := q1) hP rfl rfl rfl rfl rfl ho (whole_G (last := 0) w' hB' haw)
  | 4, _ => obtain ⟨or, en, bl, hB', ho⟩ := hP.blk;exact az_b hP rfl (streams_G (ty := 0) w' hB')
  | 5, _ => obtain ⟨or, en, bl, hB', ho⟩ := hP.blk;exact az_b hP rfl (data_G (ty := 0) w' hB')
  | 6, _ => obtain ⟨or, en, bl, hB', ho⟩ := hP.blk;exact az_b hP rfl (piece_G (ty := 0) w' hB')
 ·rintro e w' ⟨rfl, h1, h2⟩
  exact ⟨rfl, h1, h2⟩
end
end Go.Proofs.YtkeeofhjdffhbaaGreatDoor
