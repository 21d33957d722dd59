/- Parts of the proof of pt_root: the texts PtF. -/
import Derived.Test.YtkeeofhjdffhbaaGreatDoorT39
set_option linter.unusedSimpArgs false
set_option linter.unusedVariables false
set_option linter.unnecessarySimpa false
namespace Go.Proofs.YtkeeofhjdffhbaaGreatDoor
open Go Go.RowKit Go.Dr
section
variable {p fo fi o d m t s m1 m2 : Nat} {T : Nat → Prop}
theorem Kp.below {w w' : World} (h : Below w.heap.size w w') : Kp w w' := Kp.of (S := fun _ => False) (But.of_below h) fun _ _ _ _ _ e => e
/-- no item, no setting, no function turns where only these kinds do -/
theorem Kp.kinds {S : Nat → Prop} {w w' : World} (hb : But S w w') (hS : ∀ g, S g → kd w g = 97 + 1 ∨ kd w g = 0 ∨ kd w g = 118 + 1 ∨ kd w g = 158 + 1 ∨ kd w g = 210 + 1) : Kp w w' :=
 Kp.of hb fun g cur tt ht hg e => by
  have h1 : kd w g = tt + 1 := by simp only [kd, hg]
  rcases hS g e with h | h | h | h | h <;> rw [h1] at h <;> rcases ht with rfl | rfl | rfl <;> exact absurd h (by decide)
theorem az_b {w' : World} {F : FuncId} {args : Array Value} {q : Pt} (h : Pz w' p fo fi o d m t s m1 m2 q) (h0 : q.bad = 0) (hc : Calls Tryz.prog F args w' fun e w2 => e = .returned (.int .i64 0) ∧ Below w'.heap.size w' w2) :
  Calls Tryz.prog F args w' fun e w2 => e = .returned (.int .i64 q.bad) ∧ But (fun g => g = p ∨ g = o ∨ g = s ∨ T g) w' w2 ∧ Kp w' w2 ∧ Pz w2 p fo fi o d m t s m1 m2 { q with bad := 0 } :=
 hc.mono fun e w2 ⟨he, hb⟩ => ⟨by rw [h0];exact he, But.of_below hb, Kp.below hb, by
  have e : ({ q with bad := 0 } : Pt) = q := by cases q;simp only at h0;subst h0;rfl
  rw [e]
  exact h.on hb⟩
/-- an ask that tells a fault, and turns nothing -/
theorem az_f {w' : World} {F : FuncId} {args : Array Value} {q : Pt} {x : Int} (h : Pz w' p fo fi o d m t s m1 m2 q) (h0 : q.bad = 0) (hc : Calls Tryz.prog F args w' fun e w2 => e = .returned (.int .i64 x) ∧ Below w'.heap.size w' w2) :
  Calls Tryz.prog F args w' fun e w2 => e = .returned (.int .i64 ({ q with bad := x } : Pt).bad) ∧ But (fun g => g = p ∨ g = o ∨ g = s ∨ T g) w' w2 ∧ Kp w' w2 ∧ Pz w2 p fo fi o d m t s m1 m2 { ({ q with bad := x } : Pt) with bad := 0 } :=
 hc.mono fun e w2 ⟨he, hb⟩ => ⟨he, But.of_below hb, Kp.below hb, by
  have e : ({ ({ q with bad := x } : Pt) with bad := 0 } : Pt) = q := by cases q;simp only at h0;subst h0;rfl
  rw [e]
  exact h.on hb⟩
theorem az_p {w' : World} {F : FuncId} {args : Array Value} {q q' : Pt} {order block : Value} {ends : Bool} (h : Pz w' p fo fi o d m t s m1 m2 q) (h0 : q'.bad = 0) (e1 : q'.hd = q.hd) (e2 : q'.body = q.body) (e3 : q'.x = q.x) (e4 : q'.e = q.e) (hor : OrdV w' q.hd order)
  (hc : Calls Tryz.prog F args w' fun e w2 => e = .returned (.int .i64 0) ∧ Blk w2 p 97 (pz fo fi o d m { q' with bad := 0 } order ends block) ∧ But (fun k => k = p) w' w2) :
  Calls Tryz.prog F args w' fun e w2 => e = .returned (.int .i64 q'.bad) ∧ But (fun g => g = p ∨ g = o ∨ g = s ∨ T g) w' w2 ∧ Kp w' w2 ∧ Pz w2 p fo fi o d m t s m1 m2 { q' with bad := 0 } := by
 obtain ⟨d1, d2, d3, d4, d5, d6, -⟩ := h.dist
 obtain ⟨v0, hS0, hv⟩ := h.side
 refine hc.mono ?_
 rintro e w2 ⟨rfl, hP, hb⟩
 have hk : ∀ g, g = p → kd w' g = 97 + 1 := fun g e => by obtain ⟨or, en, bl, hP0, -⟩ := h.blk;rw [e];exact kd_blk hP0
 exact ⟨by rw [h0], hb.more fun g hg => .inl hg, Kp.kinds hb fun g e => .inl (hk g e), h.turn (q' := { q' with bad := 0 }) hb (fun g hg => .inl hg) e1 hor hP hv (by show Blk w2 s _ (sdz q'.hd v0 q'.body q'.e);rw [e1, e2, e4];exact hS0.but hb d1) (e3 ▸ h.off.block (hb.block o h.off.lt d4)) (h.feed.but hb d2)⟩
set_option maxRecDepth 100000 in
set_option maxHeartbeats 4000000 in
/-- settings ask nothing, and are no longer the first behind the third ask -/
theorem az_set {q : Pt} (hq : q.first = true) (hh : q.hd = false) (h0 : q.bad = 0) (hcl : q.closed = false) {w' : World} {vs : Value} (j : Nat) (hj : j < 7) (hP : Pz w' p fo fi o d m t s m1 m2 (if j ≤ 2 then q else { q with first := false })) (hrow : ∃ b, w'.ownsRow b 31 2 vs 0 []) :
  Calls Tryz.prog (askF j) #[Ptr p, itemV { ty := 4 } vs {}] w' fun e w2 => e = .returned (.int .i64 (if j + 1 ≤ 2 then q else { q with first := false }).bad) ∧ But (fun g => g = p ∨ g = o ∨ g = s ∨ T g) w' w2 ∧ Kp w' w2 ∧ Pz w2 p fo fi o d m t s m1 m2 { (if j + 1 ≤ 2 then q else { q with first := false }) with bad := 0 } := by
 obtain ⟨b, hrow⟩ := hrow
 obtain ⟨sa, sc, rfl⟩ := own_form hrow
 obtain ⟨all, beg, sets, x, first, hd, body, en, aw, cl, bad⟩ := q
 simp only at hq hh h0 hcl
 subst hq hh h0 hcl
 match j, hj with
 | 0, _ => obtain ⟨or, en, bl, hB, ho⟩ := hP.blk;exact az_b hP rfl (after_ok (closed := false) w' hB)
 | 1, _ => obtain ⟨or, en, bl, hB, ho⟩ := hP.blk;exact az_b hP rfl (formed_set (frames := 0) (ty := 0) (fl := 0) (pad := 0) (xi := false) (da := []) (sn := 0) w' hB)
 | 2, _ => obtain ⟨or, en', bl, hB, ho⟩ := hP.blk;exact az_p (q' := ⟨all, beg, sets, x, false, false, body, en, aw, false, 0⟩) hP rfl rfl rfl rfl rfl ho (pieces_first (of := 0) (first := false) (ty := 0) (fl := 0) w' hB)
 | 3, _ => obtain ⟨or, en, bl, hB, ho⟩ := hP.blk;exact az_b hP rfl (whole_set (ty := 0) (fl := 0) w' hB)
 | 4, _ => obtain ⟨or, en, bl, hB, ho⟩ := hP.blk;exact az_b hP rfl (streams_set (ty := 0) w' hB)
 | 5, _ => obtain ⟨or, en, bl, hB, ho⟩ := hP.blk;exact az_b hP rfl (data_set (ty := 0) w' hB)
 | 6, _ => obtain ⟨or, en, bl, hB, ho⟩ := hP.blk;exact az_b hP rfl (piece_set (ty := 0) w' hB)
set_option maxRecDepth 100000 in
set_option maxHeartbeats 4000000 in
/-- a head of two fields begins the stream's answer -/
theorem az_head {q : Pt} (hq : q.first = false) (hh : q.hd = false) (h0 : q.bad = 0) (hcl : q.closed = false) (hT : ∀ g, g = t ∨ g = m1 ∨ g = m2 → T g) {w' : World} {vs : Value} (j : Nat) (hj : j < 7) (hP : Pz w' p fo fi o d m t s m1 m2 (if j ≤ 6 then q else { q with hd := true, body := [], e := false })) (hrow : ∃ b, w'.ownsRow b 31 2 vs 0 []) :
  Calls Tryz.prog (askF j) #[Ptr p, itemV { ty := 1, fl := 4, st := 1, data := blkAb } vs {}] w' fun e w2 => e = .returned (.int .i64 (if j + 1 ≤ 6 then q else { q with hd := true, body := [], e := false }).bad) ∧ But (fun g => g = p ∨ g = o ∨ g = s ∨ T g) w' w2 ∧ Kp w' w2 ∧ Pz w2 p fo fi o d m t s m1 m2 { (if j + 1 ≤ 6 then q else { q with hd := true, body := [], e := false }) with bad := 0 } := by
 obtain ⟨b, hrow⟩ := hrow
 obtain ⟨sa, sc, rfl⟩ := own_form hrow
 obtain ⟨all, beg, sets, x, first, hd, body, en, aw, cl, bad⟩ := q
 simp only at hq hh h0 hcl
 subst hq hh h0 hcl
 match j, hj with
 | 0, _ => obtain ⟨or, en, bl, hB, ho⟩ := hP.blk;exact az_b hP rfl (after_ok (closed := false) w' hB)
 | 1, _ => obtain ⟨or, en, bl, hB, ho⟩ := hP.blk;exact az_b hP rfl (formed_head (frames := 0) (ty := 0) (fl := 0) (pad := 0) (xi := false) (da := []) (sn := 0) blkAb (by decide) w' hB)
 | 2, _ => obtain ⟨or, en', bl, hB, ho⟩ := hP.blk;exact az_p (q' := ⟨all, beg, sets, x, false, false, body, en, aw, false, 0⟩) hP rfl rfl rfl rfl rfl ho (pieces_head (of := 0) (first := false) (ty := 0) w' hB)
 | 3, _ => obtain ⟨or, en, bl, hB, ho⟩ := hP.blk;exact az_b hP rfl (whole_head (ty := 0) (fl := 0) w' hB)
 | 4, _ => obtain ⟨or, en, bl, hB, ho⟩ := hP.blk;obtain ⟨v, hS, hv⟩ := hP.side;exact az_b hP rfl (streams_head w' hB rfl hP.map hS rfl rfl rfl)
 | 5, _ => obtain ⟨or, en, bl, hB, ho⟩ := hP.blk;exact az_b hP rfl (data_head (ty := 0) w' hB)
 | 6, _ =>
  obtain ⟨or, en, bl, hB, ho⟩ := hP.blk
  obtain rfl : or = .slice none 0 0 := ho
  obtain ⟨v, hS, hv⟩ := hP.side
  obtain ⟨d1, d2, d3, d4, d5, d6, d7, d8, d9⟩ := hP.dist
  obtain ⟨hD, hTb, g1, g2, n12, n1, n2, n3, n4⟩ := hP.dec rfl
  obtain ⟨es2, c2, hom⟩ := hP.off.obj
  refine (piece_ab w' hB hD hTb g1 g2 n12 n1 n2 hP.map hS).mono ?_
  rintro e w2 ⟨rfl, ⟨a', c', a2, n2', c2', hB2, hr2⟩, ⟨fa, fc, hS2, hf2⟩, hb2⟩
  have hkS : ∀ g, (g = p ∨ g = s ∨ g = t ∨ g = m1 ∨ g = m2) → kd w' g = 97 + 1 ∨ kd w' g = 0 ∨ kd w' g = 118 + 1 ∨ kd w' g = 158 + 1 ∨ kd w' g = 210 + 1 := by
   rintro g (rfl | rfl | rfl | rfl | rfl)
   ·exact .inl (kd_blk hB)
   ·exact .inr (.inr (.inl (kd_blk hS)))
   ·exact .inr (.inr (.inr (.inr (kd_blk hTb))))
   ·exact .inr (.inl (kd_map g1))
   ·exact .inr (.inl (kd_map g2))
  have hoS : ¬ (o = p ∨ o = s ∨ o = t ∨ o = m1 ∨ o = m2) := by
   rintro (e | e | e | e | e)
   ·exact d4 e
   ·exact d5 e
   ·exact map_blk hom hTb e
   ·exact n3 e
   ·exact n4 e
  obtain ⟨ems, cms, hmm⟩ := hP.map.obj
  have hmS : ¬ (m = p ∨ m = s ∨ m = t ∨ m = m1 ∨ m = m2) := by
   rintro (e | e | e | e | e)
   ·exact map_blk hmm hB e
   ·exact map_blk hmm hS e
   ·exact map_blk hmm hTb e
   ·exact n1 e
   ·exact n2 e
  have hfd : ∀ {g : Nat} {xs : Array Value}, Blk w' g 158 xs → Blk w2 g 158 xs := fun {g xs} hf => hf.but hb2 fun e => by
   rcases hkS _ e with h | h | h | h | h
   ·rw [kd_blk hf] at h;exact absurd h (by decide)
   ·rw [kd_blk hf] at h;exact absurd h (by decide)
   ·rw [kd_blk hf] at h;exact absurd h (by decide)
   ·rcases e with e | e | e | e | e
    ·rw [e, kd_blk hB] at h;exact absurd h (by decide)
    ·rw [e, kd_blk hS] at h;exact absurd h (by decide)
    ·rw [e, kd_blk hTb] at h;exact absurd h (by decide)
    ·rw [e, kd_map g1] at h;exact absurd h (by decide)
    ·rw [e, kd_map g2] at h;exact absurd h (by decide)
   ·rw [kd_blk hf] at h;exact absurd h (by decide)
  exact ⟨rfl, hb2.more fun g hg => by
    rcases hg with e | e | e
    ·exact .inl e
    ·exact .inr (.inr (.inl e))
    ·exact .inr (.inr (.inr (hT g e))), Kp.kinds hb2 hkS,
   ⟨⟨_, _, _, hB2, a', c', rfl, own_base hr2 (Nat.zero_le _)⟩, ⟨_, hS2, fa, fc, rfl, own_base hf2 (Nat.zero_le _)⟩, hP.map.block (hb2.block m hP.map.lt hmS), hP.off.block (hb2.block o hP.off.lt hoS), hfd hP.out, hfd hP.feed, hP.ne, hP.mo, by rintro ⟨⟩⟩⟩
end
end Go.Proofs.YtkeeofhjdffhbaaGreatDoor
