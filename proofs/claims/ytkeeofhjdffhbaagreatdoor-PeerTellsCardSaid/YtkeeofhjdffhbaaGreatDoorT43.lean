/- Parts of the proof of pt_root: the texts PtI PtJ. -/
import Derived.Test.YtkeeofhjdffhbaaGreatDoorT42
set_option linter.unusedSimpArgs false
set_option linter.unusedVariables false
set_option linter.unnecessarySimpa false
namespace Go.Proofs.YtkeeofhjdffhbaaGreatDoor
open Go Go.RowKit Go.Dr
section
variable {p fo fi o d m t s m1 m2 : Nat} {T : Nat → Prop}
/-- data that came: windows, body, end -/
def gotE (q : Pt) (l : Bytes) (e : Bool) : Pt := { q with all := q.all - l.length, x := q.x - l.length, body := q.body ++ l, e := e }
set_option maxRecDepth 100000 in
set_option maxHeartbeats 4000000 in
theorem az_data {q : Pt} {l : Bytes} (fl : Nat) (en : Bool) (hfe : (fl = 0 ∧ en = false) ∨ (fl = 1 ∧ en = true)) (hl : l.length ≤ 16384) (hq : q.first = false) (hh : q.hd = true) (he : q.e = false) (hcl : q.closed = false) (h0 : q.bad = 0) (hb : q.body.length ≤ 1048576) (ha : (l.length : Int) ≤ q.all) (hx : (l.length : Int) = 0 ∨ (l.length : Int) ≤ q.beg + q.x) (ha2 : q.all < 4294967296) (hb1 : 0 ≤ q.beg) (hbg2 : q.beg < 4294967296) (hx1 : -4294967296 < q.x) (hx2 : q.x < 4294967296)
  {w' : World} {vs : Value} (j : Nat) (hj : j < 7) (hP : Pz w' p fo fi o d m t s m1 m2 (if j ≤ 5 then q else gotE q l en)) (hrow : ∃ b, w'.ownsRow b 31 2 vs 0 []) :
  Calls Tryz.prog (askF j) #[Ptr p, itemV { ty := 0, fl := fl, st := 1, data := l } vs {}] w' fun e w2 => e = .returned (.int .i64 (if j + 1 ≤ 5 then q else gotE q l en).bad) ∧ But (fun g => g = p ∨ g = o ∨ g = s ∨ T g) w' w2 ∧ Kp w' w2 ∧ Pz w2 p fo fi o d m t s m1 m2 { (if j + 1 ≤ 5 then q else gotE q l en) with bad := 0 } := by
 obtain ⟨b, hrow⟩ := hrow
 obtain ⟨sa, sc, rfl⟩ := own_form hrow
 obtain ⟨all, beg, sets, x, first, hd, body, e0, aw, cl, bad⟩ := q
 simp only at hq hh h0 hcl he
 subst hq hh h0 hcl he
 match j, hj with
 | 0, _ => obtain ⟨or, en', bl, hB, ho⟩ := hP.blk;exact az_b hP rfl (after_ok (closed := false) w' hB)
 | 1, _ =>
  obtain ⟨or, en', bl, hB, ho⟩ := hP.blk
  rcases hfe with ⟨rfl, rfl⟩ | ⟨rfl, rfl⟩
  ·exact az_b hP rfl (formed_dat (frames := 0) (ty := 0) (fl := 0) (pad := 0) (xi := false) (da := []) (sn := 0) l hl w' hB)
  ·exact az_b hP rfl (formed_D1 (frames := 0) (ty := 0) (fl := 0) (pad := 0) (xi := false) (da := []) (sn := 0) l hl w' hB)
 | 2, _ => obtain ⟨or, en', bl, hB, ho⟩ := hP.blk;exact az_p (q' := ⟨all, beg, sets, x, false, true, body, false, aw, false, 0⟩) hP rfl rfl rfl rfl rfl ho (pieces_on (of := 0) (first := false) (ty := 0) w' hB)
 | 3, _ =>
  obtain ⟨or, en', bl, hB, ho⟩ := hP.blk
  rcases hfe with ⟨rfl, rfl⟩ | ⟨rfl, rfl⟩
  ·exact az_b hP rfl (whole_data (ty := 0) (fl := 0) w' hB)
  ·exact az_b hP rfl (whole_D1 (ty := 0) (fl := 0) w' hB)
 | 4, _ =>
  obtain ⟨or, en', bl, hB, ho⟩ := hP.blk
  obtain ⟨v, hS, hv⟩ := hP.side
  rcases hfe with ⟨rfl, rfl⟩ | ⟨rfl, rfl⟩
  ·exact az_b hP rfl (streams_dat w' hB rfl hP.map hS rfl rfl rfl)
  ·exact az_b hP rfl (streams_D1 w' hB rfl hP.map hS rfl rfl rfl)
 | 5, _ =>
  obtain ⟨or, en', bl, hB, ho⟩ := hP.blk
  obtain ⟨v, hS, hv⟩ := hP.side
  obtain ⟨d1, d2, d3, d4, d5, d6, d7, d8, d9⟩ := hP.dist
  obtain ⟨es2, c2, hom⟩ := hP.off.obj
  have hkS : ∀ g, (g = p ∨ g = o ∨ g = s) → kd w' g = 97 + 1 ∨ kd w' g = 0 ∨ kd w' g = 118 + 1 ∨ kd w' g = 158 + 1 ∨ kd w' g = 210 + 1 := by
   rintro g (rfl | rfl | rfl)
   ·exact .inl (kd_blk hB)
   ·exact .inr (.inl (kd_map hom))
   ·exact .inr (.inr (.inl (kd_blk hS)))
  have fin : ∀ {r : Ending} {w2 : World}, (r = .returned (.int .i64 0) ∧ Blk w2 p 97 ((pz fo fi o d m ⟨all, beg, sets, x, false, true, body, false, aw, false, 0⟩ or en' bl).setIfInBounds 2 (.int .i64 (all - l.length))) ∧ OM w2 o (x - l.length) ∧ Blk w2 s 118 (((sdz true v body false).setIfInBounds 3 (S (body ++ l))).setIfInBounds 4 (.bool en)) ∧ But (fun k => k = p ∨ k = o ∨ k = s) w' w2) →
    r = .returned (.int .i64 (gotE ⟨all, beg, sets, x, false, true, body, false, aw, false, 0⟩ l en).bad) ∧ But (fun g => g = p ∨ g = o ∨ g = s ∨ T g) w' w2 ∧ Kp w' w2 ∧ Pz w2 p fo fi o d m t s m1 m2 { gotE ⟨all, beg, sets, x, false, true, body, false, aw, false, 0⟩ l en with bad := 0 } := by
   rintro r w2 ⟨rfl, hB2, hO2, hS2, hb2⟩
   exact ⟨rfl, hb2.more fun g hg => by rcases hg with e | e | e;exact .inl e;exact .inr (.inl e);exact .inr (.inr (.inl e)), Kp.kinds hb2 hkS,
    hP.turn (q' := { gotE ⟨all, beg, sets, x, false, true, body, false, aw, false, 0⟩ l en with bad := 0 }) hb2 (fun g hg => by rcases hg with e | e | e;exact .inl e;exact .inr (.inl e);exact .inr (.inr (.inl e))) rfl ho hB2 hv hS2 hO2 (hP.feed.but hb2 (by rintro (e | e | e);exact d2 e;exact d6 e.symm;exact d3 e))⟩
  rcases hfe with ⟨rfl, rfl⟩ | ⟨rfl, rfl⟩
  ·exact (data_yes (l := l) w' hB rfl rfl rfl rfl hP.map hP.off hS rfl rfl rfl hP.mo hl hb ha hx ha2 hb1 hbg2 hx1 hx2).mono fun r w2 h => fin h
  ·exact (data_end (l := l) w' hB rfl rfl rfl rfl hP.map hP.off hS rfl rfl rfl hP.mo hl hb ha hx ha2 hb1 hbg2 hx1 hx2).mono fun r w2 h => fin h
 | 6, _ =>
  obtain ⟨or, en', bl, hB, ho⟩ := hP.blk
  rcases hfe with ⟨rfl, rfl⟩ | ⟨rfl, rfl⟩
  ·exact az_b hP rfl (piece_dat (ty := 0) w' hB)
  ·exact az_b hP rfl (piece_dat (ty := 0) w' hB)
abbrev Row0 (w' : World) (vs : Value) : Prop := ∃ b, w'.ownsRow b 31 2 vs 0 []
set_option maxRecDepth 100000 in
set_option maxHeartbeats 4000000 in
/-- data that may come -/
theorem Got_data {q : Pt} {l : Bytes} (fl : Nat) (en : Bool) (hfe : (fl = 0 ∧ en = false) ∨ (fl = 1 ∧ en = true)) (hl : l.length ≤ 16384) (hq : q.first = false) (hh : q.hd = true) (he : q.e = false) (hcl : q.closed = false) (h0 : q.bad = 0) (hb : q.body.length ≤ 1048576) (ha : (l.length : Int) ≤ q.all) (hx : (l.length : Int) = 0 ∨ (l.length : Int) ≤ q.beg + q.x) (ha2 : q.all < 4294967296) (hb1 : 0 ≤ q.beg) (hbg2 : q.beg < 4294967296) (hx1 : -4294967296 < q.x) (hx2 : q.x < 4294967296)
  (vb : Value) (w : World) (h : Pz w p fo fi o d m t s m1 m2 q) (hB : By w.heap.size w vb (frB 0 fl 1 l)) :
  Calls Tryz.prog 13 #[Ptr p, vb] w fun e w' => e = .returned (.int .i64 0) ∧ But (fun g => g = p ∨ g = o ∨ g = s ∨ g = fi ∨ False) w w' ∧ Pz w' p fo fi o d m t s m1 m2 (gotE q l en) := by
 have hlen := frB_length 0 fl 1 l
 have hb0 : (gotE q l en).bad = 0 := h0
 refine (Got_pt (fun k j => if k = 0 then (if j ≤ 5 then q else gotE q l en) else gotE q l en) ?_ ?_ _ vb w h hB (by omega) [({ ty := 0, fl := fl, st := 1, data := l }, {})] (itemsF_1 (tk_dat l (by omega) fl (by rcases hfe with h | h;exact .inl h.1;exact .inr h.1)) (by decide) (by omega)) (fun _ => False) ?_).mono ?_
 ·intro k
  rcases k with _ | k <;> rfl
 ·intro k j hne
  exfalso
  apply hne
  show (if k = 0 then (if j ≤ 5 then q else gotE q l en) else gotE q l en).bad = 0
  split
  ·split
   ·exact h0
   ·exact hb0
  ·exact hb0
 ·intro k j w' vs hP hb0 hj hk hrow
  obtain rfl : k = 0 := by simpa using hk
  exact az_data fl en hfe hl hq hh he hcl h0 hb ha hx ha2 hb1 hbg2 hx1 hx2 j hj hP hrow
 ·rintro e w' ⟨rfl, h1, h2⟩
  exact ⟨by show Ending.returned (.int .i64 (gotE q l en).bad) = _;rw [hb0], h1, h2⟩
set_option maxRecDepth 100000 in
set_option maxHeartbeats 4000000 in
/-- a frame that may not come, by the ask j0 -/
theorem Got_bad {q : Pt} {x : Int} (hx : x ≠ 0) (j0 : Nat) (hj0 : j0 < 7) (h0 : q.bad = 0) {ty fl st : Nat} {pl : Bytes} {f : Fr} (hk : Tk 16777215 ty fl st pl f) (hl : pl.length ≤ 1000000) (hset : f.sets = [])
  (vb : Value) (w : World) (h : Pz w p fo fi o d m t s m1 m2 q) (hB : By w.heap.size w vb (frB ty fl st pl))
  (hs : ∀ j w' vs, j < j0 → Pz w' p fo fi o d m t s m1 m2 q → Row0 w' vs → Calls Tryz.prog (askF j) #[Ptr p, itemV f vs {}] w' fun e w2 => e = .returned (.int .i64 q.bad) ∧ But (fun g => g = p ∨ g = o ∨ g = s ∨ False) w' w2 ∧ Kp w' w2 ∧ Pz w2 p fo fi o d m t s m1 m2 { q with bad := 0 })
  (hf : ∀ w' vs, Pz w' p fo fi o d m t s m1 m2 q → Row0 w' vs → Calls Tryz.prog (askF j0) #[Ptr p, itemV f vs {}] w' fun e w2 => e = .returned (.int .i64 x) ∧ Below w'.heap.size w' w2) :
  Calls Tryz.prog 13 #[Ptr p, vb] w fun e w' => e = .returned (.int .i64 x) ∧ But (fun g => g = p ∨ g = o ∨ g = s ∨ g = fi ∨ False) w w' := by
 have hlen := frB_length ty fl st pl
 refine (Got_pt (p := p) (fo := fo) (fi := fi) (o := o) (d := d) (m := m) (t := t) (s := s) (m1 := m1) (m2 := m2) (fun k j => if k = 0 then (if j ≤ j0 then q else { q with bad := x }) else { q with bad := x }) ?_ ?_ _ vb w ?_ hB (by omega) [(f, {})] (itemsF_1 hk (by decide) (by omega)) (fun _ => False) ?_).mono ?_
 ·intro k
  rcases k with _ | k
  ·show (if 7 ≤ j0 then q else { q with bad := x }) = _
   rw [if_neg (by omega)]
   rfl
  ·rfl
 ·intro k j hne
  rcases k with _ | k
  ·by_cases hj : j ≤ j0
   ·exact absurd (show (if j ≤ j0 then q else { q with bad := x }).bad = 0 by rw [if_pos hj];exact h0) hne
   ·show (if j + 1 ≤ j0 then q else { q with bad := x }) = (if j ≤ j0 then q else { q with bad := x })
    rw [if_neg hj, if_neg (by omega)]
  ·rfl
 ·show Pz w p fo fi o d m t s m1 m2 (if 0 ≤ j0 then q else { q with bad := x })
  rw [if_pos (Nat.zero_le _)]
  exact h
 ·intro k j w' vs hP hb0 hj hk hrow
  obtain rfl : k = 0 := by simpa using hk
  have hrow' : Row0 w' vs := by
   have h1 := hrow
   simp only [List.getElem_cons_zero] at h1
   rw [hset] at h1
   exact h1
  by_cases hlt : j < j0
  ·have e1 : (if j ≤ j0 then q else { q with bad := x }) = q := if_pos (by omega)
   have e2 : (if j + 1 ≤ j0 then q else { q with bad := x }) = q := if_pos (by omega)
   have hP' : Pz w' p fo fi o d m t s m1 m2 q := by
    have h1 : Pz w' p fo fi o d m t s m1 m2 (if j ≤ j0 then q else { q with bad := x }) := hP
    rw [e1] at h1
    exact h1
   have h2 := hs j w' vs hlt hP' hrow'
   show Calls Tryz.prog (askF j) #[Ptr p, itemV f vs {}] w' fun e w2 => e = .returned (.int .i64 (if j + 1 ≤ j0 then q else { q with bad := x }).bad) ∧ _ ∧ _ ∧ Pz w2 p fo fi o d m t s m1 m2 { (if j + 1 ≤ j0 then q else { q with bad := x }) with bad := 0 }
   rw [e2]
   exact h2
  ·by_cases hj2 : j = j0
   ·subst hj2
    have e1 : (if j ≤ j then q else { q with bad := x }) = q := if_pos (Nat.le_refl _)
    have e2 : (if j + 1 ≤ j then q else { q with bad := x }) = { q with bad := x } := if_neg (by omega)
    have hP' : Pz w' p fo fi o d m t s m1 m2 q := by
     have h1 : Pz w' p fo fi o d m t s m1 m2 (if j ≤ j then q else { q with bad := x }) := hP
     rw [e1] at h1
     exact h1
    have h2 := az_f (T := fun _ => False) hP' h0 (hf w' vs hP' hrow')
    show Calls Tryz.prog (askF j) #[Ptr p, itemV f vs {}] w' fun e w2 => e = .returned (.int .i64 (if j + 1 ≤ j then q else { q with bad := x }).bad) ∧ _ ∧ _ ∧ Pz w2 p fo fi o d m t s m1 m2 { (if j + 1 ≤ j then q else { q with bad := x }) with bad := 0 }
    rw [e2]
    exact h2
   ·exfalso
    have h1 : (if j ≤ j0 then q else { q with bad := x }).bad = 0 := hb0
    rw [if_neg (by omega)] at h1
    exact hx h1
 ·rintro e w' ⟨rfl, h1, h2⟩
  exact ⟨rfl, h1⟩
end
end Go.Proofs.YtkeeofhjdffhbaaGreatDoor
namespace Go.Proofs.YtkeeofhjdffhbaaGreatDoor
open Go Go.RowKit Go.Dr
set_option maxRecDepth 100000 in
set_option maxHeartbeats 4000000 in
theorem PeerNew_tab (w : World) : Calls Tryz.prog 7 #[] w fun e w' => ∃ p fo fi o d m t, e = .returned (Ptr p) ∧ Below w.heap.size w w' ∧ P1 w' p fo fi o d m t 0 65535 0 ∧ w.heap.size ≤ p ∧ w.heap.size ≤ fo ∧ w.heap.size ≤ fi ∧ w.heap.size ≤ o ∧ w.heap.size ≤ m ∧ Tbl0 w' t ∧ 2 ≤ t ∧ p < t - 2 ∧ fo < t - 2 ∧ fi < t - 2 ∧ o < t - 2 ∧ m < t - 2 := by
 have hmm := @run_makeMap Tryz.prog
 have hI := fun w => (show Calls Tryz.prog 34 #[.int .i64 16384, .bool true] w (fun e w' => e = .returned (Ptr w.heap.size) ∧ Blk w' w.heap.size 158 (feedC 16384 0 (.slice none 0 0) false) ∧ Below w.heap.size w w') from ChNew_any 16384 true w (by decide))
 have hJ := fun w => (show Calls Tryz.prog 34 #[.int .i64 16777215, .bool false] w (fun e w' => e = .returned (Ptr w.heap.size) ∧ Blk w' w.heap.size 158 (feedC 16777215 24 (.slice none 0 0) false) ∧ Below w.heap.size w w') from ChNew_any 16777215 false w (by decide))
 go_enter Tryz.func7, Tryz.ntmps7
 go_wp2_with (first
  | (go_at_call 35;(with_reducible refine (DecNew_any _).mono ?_);rintro e w5 ⟨d, t, rfl, hb5, ht5, htd5, hd5, hT5, hD5⟩;obtain ⟨q1, q2, q3, q4, q5⟩ := peer_made w4 (Ptr w.heap.size) (Ptr w3.heap.size) 97 w4.heap.size rfl;have p1 := q1.on hb5;have p5 : w5.cell? ⟨w4.heap.size + 1, 5, none⟩ = some (.pointer none) := p1.cell 5;have p6 := p1.free 5;have m1 := obj_below q2 hb5 (Array.getElem?_eq_some_iff.1 q2).1;have m2 := obj_below q3 hb5 (Array.getElem?_eq_some_iff.1 q3).1)
  | (go_at_call 34;(with_reducible refine (hJ _).mono ?_);rintro e w4 ⟨rfl, hI4, hb4⟩)
  | (go_at_call 34;(with_reducible refine (hI _).mono ?_);rintro e w3 ⟨rfl, hI3, hb3⟩))
 go_ret
 have s3 := hI3.lt
 have s4 := hI4.lt
 have hs3 := hb3.size
 have hs4 := hb4.size
 have hs5 := hb5.size
 rw [q4] at hs5 ht5
 refine ⟨_, w.heap.size, w3.heap.size, w4.heap.size + 1 + 1, d, w4.heap.size, t, rfl, ?_, ⟨?_, ?_, ?_, ?_, ?_, by omega, by omega, ?_, ?_⟩, by omega, by omega, by omega, by omega, by omega, ⟨?_, ?_, ?_⟩, by omega, by omega, by omega, by omega, by omega, by omega⟩
 ·refine Below.setCell (((hb3.trans (hb4.mono hs3)).trans (q5.mono (by omega))).trans (hb5.mono (by rw [q4];omega))) (by show w.heap.size ≤ w4.heap.size + 1;omega) _
 ·have := p1.set 5 (Ptr d)
  simpa using this
 ·exact (Below.heap_setCell _ _ _ _ (by show w4.heap.size ≠ w4.heap.size + 1;omega)).trans m1
 ·exact (Below.heap_setCell _ _ _ _ (by show w4.heap.size + 1 + 1 ≠ w4.heap.size + 1;omega)).trans m2
 ·exact ((((hI3.on hb4).below q5 (by omega)).on hb5)).other (by show w.heap.size ≠ w4.heap.size + 1;omega) _
 ·exact ((hI4.below q5 (by omega)).on hb5).other (by show w3.heap.size ≠ w4.heap.size + 1;omega) _
 ·exact hD5.other (by show d ≠ w4.heap.size + 1;omega) _
 ·exact ⟨_, _, hT5.blk.other (by show t ≠ w4.heap.size + 1;omega) _⟩
 ·exact (Below.heap_setCell _ _ _ _ (by show t - 2 ≠ w4.heap.size + 1;omega)).trans hT5.m1
 ·exact (Below.heap_setCell _ _ _ _ (by show t - 1 ≠ w4.heap.size + 1;omega)).trans hT5.m2
 ·exact hT5.blk.other (by show t ≠ w4.heap.size + 1;omega) _
theorem Tbl0.but {w w' : World} {t : Nat} {S : Nat → Prop} (h : Tbl0 w t) (hb : But S w w') (hS : ∀ g, S g → g < t - 2) : Tbl0 w' t :=
 ⟨(hb.block _ (lt_of_block h.m1) fun e => by have := hS _ e;omega).trans h.m1, (hb.block _ (lt_of_block h.m2) fun e => by have := hS _ e;omega).trans h.m2, h.blk.but hb fun e => by have := hS _ e;omega⟩
theorem Tbl0.on {w w' : World} {t : Nat} (h : Tbl0 w t) (hb : Below w.heap.size w w') : Tbl0 w' t := h.but (But.of_below (S := fun _ => False) hb) fun _ e => e.elim
theorem Pz.of_pw {w : World} {p fo fi o d m t s : Nat} {q : Ps} (h : Pw w p fo fi o d m t s q) (hh : q.hd = false) (hT : Tbl0 w t) (h2 : 2 ≤ t) (ho : o < t - 2) (hm : m < t - 2) :
  Pz w p fo fi o d m t s (t - 2) (t - 1) ⟨q.all, q.beg, q.sets, q.x, q.first, false, q.body, false, 2147483647, false, q.bad⟩ := by
 obtain ⟨or, of, en, bl, hP0, rfl, hor⟩ := h.blk
 have hs := h.side
 rw [hh] at hs
 obtain ⟨hD, -⟩ := h.dec hh
 exact ⟨⟨or, en, bl, hP0, hor hh⟩, ⟨.slice none 0 0, hs, rfl⟩, h.map, h.off, h.out, h.feed, h.ne, h.mo, fun _ => ⟨hD, hT.blk, hT.m1, hT.m2, by omega, by omega, by omega, by omega, by omega⟩⟩
end Go.Proofs.YtkeeofhjdffhbaaGreatDoor
