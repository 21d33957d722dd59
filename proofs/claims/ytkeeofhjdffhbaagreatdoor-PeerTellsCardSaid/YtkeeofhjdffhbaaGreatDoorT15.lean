/- Parts of the proof of pt_root: the texts Gt2. -/
import Derived.Test.YtkeeofhjdffhbaaGreatDoorT12
import Derived.Test.YtkeeofhjdffhbaaGreatDoorT14
set_option linter.unusedSimpArgs false
set_option linter.unusedVariables false
set_option linter.unnecessarySimpa false
namespace Go.Proofs.YtkeeofhjdffhbaaGreatDoor
open Go.RowKit Go.Dr
theorem blk_type {w : World} {p : Nat} {t t' : TypeId} {xs ys : Array Value} (h : Blk w p t xs) (h' : Blk w p t' ys) : t = t' := by
 have := (show w.heap[p]? = _ from h).symm.trans h'
 simp only [Option.some.injEq, Obj.cells.injEq] at this
 exact this.2.1
set_option maxRecDepth 100000 in
theorem Got_st {p fi : Nat} (C : Nat → Nat → Array Value) (G : Nat → Nat → Int) (hC : ∀ k j, (C k j).size = 20) (h1 : (C 0 0)[1]? = some (Ptr fi)) (h19 : ∀ k j, (C k j)[19]? = some (.int .i64 (G k j)))
  (hG : ∀ k j, G k j ≠ 0 → C k (j + 1) = C k j) (h7 : ∀ k, C k 7 = C (k + 1) 0) (l : Bytes) (vb : Value) (w : World) (hp : Blk w p 97 (C 0 0)) (hf : Blk w fi 158 (feedC 16777215 24 (.slice none 0 0) false))
  (hb : By w.heap.size w vb l) (hl : l.length ≤ 1048576) (q : List (Fr × Ft)) (eR : itemsF 16777215 (l.length + 1) l = (q, [], false))
  (hs : ∀ k j w' vs, But (fun g => g = p ∨ g = fi) w w' → Blk w' p 97 (C k j) → G k j = 0 → j < 7 → ∀ hk : k < q.length, (∃ b, w'.ownsRow b 31 2 vs q[k].1.sets.length (scells q[k].1.sets)) →
   Calls Tryz.prog (askF j) #[Ptr p, itemV q[k].1 vs q[k].2] w' fun e w2 => ∃ x : Int, e = .returned (.int .i64 x) ∧ But (fun g => g = p) w' w2 ∧ ∃ xs, Blk w2 p 97 xs ∧ xs.setIfInBounds 19 (.int .i64 x) = C k (j + 1)) :
  Calls Tryz.prog 13 #[Ptr p, vb] w fun e w' => e = .returned (.int .i64 (G q.length 0)) ∧ But (fun g => g = p ∨ g = fi) w w' ∧ Blk w' p 97 (C q.length 0) ∧ Blk w' fi 158 (feedC 16777215 24 (.slice none 0 0) false) := by
 have hpf : p ≠ fi := fun e => by
  subst e
  have := blk_type hp hf
  revert this
  decide
 have hnt : ¬ ((97 : TypeId) = 74 ∨ (97 : TypeId) = 31 ∨ (97 : TypeId) = 115) := by decide
 have hR := Got_run l vb w hp.lt ((hp.cell 1).trans h1) hf hb hl q [] false eR
  (fun k j w' => But (fun g => g = p ∨ g = fi) w w' ∧ Blk w' p 97 (C k j) ∧ Blk w' fi 158 (feedC 16777215 24 (.slice none 0 0) false)) ?_ ?_ ?_ ?_ ?_
 ·refine hR.mono ?_
  rintro e w' ⟨bad, rfl, hbad, h2, h3, h4⟩
  have e1 := hbad.symm.trans ((h3.cell 19).trans (h19 _ _))
  simp only [Option.some.injEq, Value.int.injEq, true_and] at e1
  subst e1
  exact ⟨rfl, h2, h3, h4⟩
 ·intro w0 w1 v' hb0 hb1 hf1 _ hz
  obtain rfl := hz rfl
  refine ⟨(But.of_below hb0).trans (hb1.more fun g hg => .inr hg), ?_, hf1⟩
  exact (hb1.block p (Nat.lt_of_lt_of_le hp.lt hb0.size) hpf).trans (hp.on hb0)
 ·rintro k w' o ⟨h2, h3, h4⟩
  exact ⟨h2.alloc _, h3.alloc _, h4.alloc _⟩
 ·rintro k w' ⟨h2, h3, h4⟩
  exact ⟨h2, h7 k ▸ h3, h4⟩
 ·rintro k j w' ⟨h2, h3, h4⟩
  exact ⟨_, (h3.cell 19).trans (h19 k j), fun hne => ⟨h2, (hG k j hne).symm ▸ h3, h4⟩⟩
 ·rintro k j w' vs ⟨h2, h3, h4⟩ hbad hj hk hrow
  have e1 := hbad.symm.trans ((h3.cell 19).trans (h19 _ _))
  simp only [Option.some.injEq, Value.int.injEq, true_and] at e1
  refine (hs k j w' vs h2 h3 e1.symm hj hk hrow).mono ?_
  rintro e w2 ⟨x, rfl, hb2, xs, hx, ex⟩
  have hsz : xs.size = 20 := by rw [← hC k (j + 1), ← ex];simp
  refine ⟨x, rfl, Kp.of hb2 fun g cur t ht hg e => ?_, ⟨xs, hx, hsz⟩, ?_, ?_, ?_⟩
  ·have e2 : g = p := e
   subst e2
   exact hnt (blk_type h3 hg ▸ ht)
  ·exact (h2.trans (hb2.more fun g hg => .inl hg)).setCell (p := ⟨p, 19, none⟩) (.inl (.inl rfl)) _
  ·rw [← ex];exact hx.set 19 _
  ·exact Blk.other (show Blk w2 fi _ _ from (hb2.block fi h4.lt (fun e => hpf e.symm)).trans h4) (fun e => hpf e.symm) _
abbrev pc (fo fi o d m : Nat) (first : Bool) (away bad : Int) : Array Value := #[Ptr fo, Ptr fi, .int .i64 65535, .int .i64 65535, .map (some o), Ptr d, .int .i64 16384, .int .i64 4096, .int .i64 0, .slice none 0 0, .int .i64 0, .map (some m), .slice none 0 0, .bool first, .int .i64 0, .bool false, .slice none 0 0, .int .i64 away, .bool false, .int .i64 bad]
/-- a peer for which no stream began, its blocks named -/
structure Pr (w : World) (p fo fi o d m : Nat) (first : Bool) (away bad : Int) : Prop where
 out : Blk w fo 158 (feedC 16384 0 (.slice none 0 0) false)
 feed : Blk w fi 158 (feedC 16777215 24 (.slice none 0 0) false)
 ne : fo ≠ fi
 began : w.heap[m]? = some (.map #[] 0)
 off : w.heap[o]? = some (.map #[] 0)
 blk : Blk w p 97 (pc fo fi o d m first away bad)
theorem obj_but {p fi k : Nat} {w w' : World} {xs ys : Array Value} {ms : Array MapEntry} {n : Nat} (hbut : But (fun g => g = p ∨ g = fi) w w') (hm : w.heap[k]? = some (.map ms n)) (hp : Blk w p 97 xs) (hf : Blk w fi 158 ys) : w'.heap[k]? = some (.map ms n) :=
 (hbut.block k (lt_of_block hm) (fun e => by
  rcases e with e | e
  ·have := (e ▸ hm).symm.trans (show w.heap[p]? = _ from hp)
   simp at this
  ·have := (e ▸ hm).symm.trans (show w.heap[fi]? = _ from hf)
   simp at this)).trans hm
theorem Pr.began' {w w' : World} {p fo fi o d m : Nat} {first : Bool} {away bad : Int} (h : Pr w p fo fi o d m first away bad) (hbut : But (fun g => g = p ∨ g = fi) w w') : w'.heap[m]? = some (.map #[] 0) := obj_but hbut h.began h.blk h.feed
theorem Pr.after {w w' : World} {p fo fi o d m : Nat} {first first' : Bool} {away away' bad bad' : Int} (h : Pr w p fo fi o d m first away bad) (hbut : But (fun g => g = p ∨ g = fi) w w') (hF : Blk w' fi 158 (feedC 16777215 24 (.slice none 0 0) false)) (hP : Blk w' p 97 (pc fo fi o d m first' away' bad')) : Pr w' p fo fi o d m first' away' bad' :=
  ⟨(hbut.block fo h.out.lt (fun e => by
    rcases e with e | e
    · have h5 := blk_type (e ▸ h.out) h.blk
      revert h5
      decide
    · exact h.ne e)).trans h.out, hF, h.ne, h.began' hbut, obj_but hbut h.off h.blk h.feed, hP⟩

set_option maxRecDepth 100000 in
set_option maxHeartbeats 4000000 in
/-- settings come first -/
theorem Got_s0 {p fo fi o d m : Nat} {away : Int} (vb : Value) (w : World) (h : Pr w p fo fi o d m true away 0) (hb : By w.heap.size w vb [0, 0, 0, 4, 0, 0, 0, 0, 0]) :
  Calls Tryz.prog 13 #[Ptr p, vb] w fun e w' => e = .returned (.int .i64 0) ∧ But (fun g => g = p ∨ g = fi) w w' ∧ Pr w' p fo fi o d m false away 0 := by
 refine (Got_st (p := p) (fi := fi) (fun k j => pc fo fi o d m (if k = 0 ∧ j ≤ 2 then true else false) away 0) (fun k j => 0) (fun _ _ => rfl) rfl (fun _ _ => rfl) ?_ ?_ [0, 0, 0, 4, 0, 0, 0, 0, 0] vb w h.blk h.feed hb (by decide) [({ ty := 4 }, {})] (by rfl) ?_).mono ?_
 ·intro k j hne
  first | exact absurd rfl hne | rfl | (have hc := fun hc => hne (if_pos hc);rw [if_neg hc, if_neg (by omega)])
 ·intro k
  first | rfl | (rw [if_neg (by omega), if_neg (by omega)])
 ·rintro k j w' vs hbut hP h0 hj hk ⟨b, hrow⟩
  have hk0 : k = 0 := by simpa using hk
  subst hk0
  obtain ⟨sa, sc, rfl⟩ := own_form hrow
  have ask0 : ∀ {F : FuncId} {X : Int} {args : Array Value} {xs : Array Value}, (xs.setIfInBounds 19 (.int .i64 X) = (fun k j => pc fo fi o d m (if k = 0 ∧ j ≤ 2 then true else false) away 0) 0 (j + 1)) → Blk w' p 97 xs → Calls Tryz.prog F args w' (fun e w2 => e = .returned (.int .i64 X) ∧ Below w'.heap.size w' w2) → Calls Tryz.prog F args w' (fun e w2 => ∃ x : Int, e = .returned (.int .i64 x) ∧ But (fun g => g = p) w' w2 ∧ ∃ xs, Blk w2 p 97 xs ∧ xs.setIfInBounds 19 (.int .i64 x) = (fun k j => pc fo fi o d m (if k = 0 ∧ j ≤ 2 then true else false) away 0) 0 (j + 1)) :=
   fun he hx hc => hc.mono fun e w2 he2 => ⟨_, he2.1, But.of_below he2.2, _, hx.on he2.2, he⟩
  match j, hj with
  | 0, _ => exact ask0 rfl hP (after_ok (closed := false) w' hP)
  | 1, _ => exact ask0 rfl hP (formed_set (frames := 0) (ty := 0) (fl := 0) (pad := 0) (xi := false) (da := []) (sn := 0) w' hP)
  | 2, _ => exact (pieces_first (of := 0) (first := false) (ty := 0) (fl := 0) w' hP).mono fun e w2 he => ⟨_, he.1, he.2.2, _, he.2.1, rfl⟩
  | 3, _ => exact ask0 rfl hP (whole_set (ty := 0) (fl := 0) w' hP)
  | 4, _ => exact ask0 rfl hP (streams_set (ty := 0) w' hP)
  | 5, _ => exact ask0 rfl hP (data_set (ty := 0) w' hP)
  | 6, _ => exact ask0 rfl hP (piece_set (ty := 0) w' hP)
 ·rintro e w' ⟨rfl, hbut, hP, hF⟩
  exact ⟨rfl, hbut, h.after hbut hF hP⟩
set_option maxRecDepth 100000 in
set_option maxHeartbeats 4000000 in
/-- data come first -/
theorem Got_d0 {p fo fi o d m : Nat} {away : Int} (vb : Value) (w : World) (h : Pr w p fo fi o d m true away 0) (hb : By w.heap.size w vb [0, 0, 0, 0, 0, 0, 0, 0, 1]) :
  Calls Tryz.prog 13 #[Ptr p, vb] w fun e w' => e = .returned (.int .i64 241) ∧ But (fun g => g = p ∨ g = fi) w w' ∧ Pr w' p fo fi o d m true away 241 := by
 refine (Got_st (p := p) (fi := fi) (fun k j => pc fo fi o d m true away (if k = 0 ∧ j ≤ 2 then 0 else 241)) (fun k j => if k = 0 ∧ j ≤ 2 then 0 else 241) (fun _ _ => rfl) rfl (fun _ _ => rfl) ?_ ?_ [0, 0, 0, 0, 0, 0, 0, 0, 1] vb w h.blk h.feed hb (by decide) [({ st := 1 }, {})] (by rfl) ?_).mono ?_
 ·intro k j hne
  first | exact absurd rfl hne | rfl | (have hc := fun hc => hne (if_pos hc);rw [if_neg hc, if_neg (by omega)])
 ·intro k
  first | rfl | (rw [if_neg (by omega), if_neg (by omega)])
 ·rintro k j w' vs hbut hP h0 hj hk ⟨b, hrow⟩
  have hk0 : k = 0 := by simpa using hk
  subst hk0
  obtain ⟨sa, sc, rfl⟩ := own_form hrow
  have ask0 : ∀ {F : FuncId} {X : Int} {args : Array Value} {xs : Array Value}, (xs.setIfInBounds 19 (.int .i64 X) = (fun k j => pc fo fi o d m true away (if k = 0 ∧ j ≤ 2 then 0 else 241)) 0 (j + 1)) → Blk w' p 97 xs → Calls Tryz.prog F args w' (fun e w2 => e = .returned (.int .i64 X) ∧ Below w'.heap.size w' w2) → Calls Tryz.prog F args w' (fun e w2 => ∃ x : Int, e = .returned (.int .i64 x) ∧ But (fun g => g = p) w' w2 ∧ ∃ xs, Blk w2 p 97 xs ∧ xs.setIfInBounds 19 (.int .i64 x) = (fun k j => pc fo fi o d m true away (if k = 0 ∧ j ≤ 2 then 0 else 241)) 0 (j + 1)) :=
   fun he hx hc => hc.mono fun e w2 he2 => ⟨_, he2.1, But.of_below he2.2, _, hx.on he2.2, he⟩
  match j, hj with
  | 0, _ => exact ask0 rfl hP (after_ok (closed := false) w' hP)
  | 1, _ => exact ask0 rfl hP (formed_data (frames := 0) (ty := 0) (fl := 0) (pad := 0) (xi := false) (da := []) (sn := 0) w' hP)
  | 2, _ => exact ask0 rfl hP (pieces_wrong (first := false) w' hP rfl)
  | 3, _ => exact absurd h0 (by decide)
  | 4, _ => exact absurd h0 (by decide)
  | 5, _ => exact absurd h0 (by decide)
  | 6, _ => exact absurd h0 (by decide)
 ·rintro e w' ⟨rfl, hbut, hP, hF⟩
  exact ⟨rfl, hbut, h.after hbut hF hP⟩
set_option maxRecDepth 100000 in
set_option maxHeartbeats 4000000 in
/-- data of a stream that did not begin -/
theorem Got_d1 {p fo fi o d m : Nat} {away : Int} (vb : Value) (w : World) (h : Pr w p fo fi o d m false away 0) (hb : By w.heap.size w vb [0, 0, 0, 0, 0, 0, 0, 0, 1]) :
  Calls Tryz.prog 13 #[Ptr p, vb] w fun e w' => e = .returned (.int .i64 241) ∧ But (fun g => g = p ∨ g = fi) w w' ∧ Pr w' p fo fi o d m false away 241 := by
 refine (Got_st (p := p) (fi := fi) (fun k j => pc fo fi o d m false away (if k = 0 ∧ j ≤ 4 then 0 else 241)) (fun k j => if k = 0 ∧ j ≤ 4 then 0 else 241) (fun _ _ => rfl) rfl (fun _ _ => rfl) ?_ ?_ [0, 0, 0, 0, 0, 0, 0, 0, 1] vb w h.blk h.feed hb (by decide) [({ st := 1 }, {})] (by rfl) ?_).mono ?_
 ·intro k j hne
  first | exact absurd rfl hne | rfl | (have hc := fun hc => hne (if_pos hc);rw [if_neg hc, if_neg (by omega)])
 ·intro k
  first | rfl | (rw [if_neg (by omega), if_neg (by omega)])
 ·rintro k j w' vs hbut hP h0 hj hk ⟨b, hrow⟩
  have hk0 : k = 0 := by simpa using hk
  subst hk0
  obtain ⟨sa, sc, rfl⟩ := own_form hrow
  have ask0 : ∀ {F : FuncId} {X : Int} {args : Array Value} {xs : Array Value}, (xs.setIfInBounds 19 (.int .i64 X) = (fun k j => pc fo fi o d m false away (if k = 0 ∧ j ≤ 4 then 0 else 241)) 0 (j + 1)) → Blk w' p 97 xs → Calls Tryz.prog F args w' (fun e w2 => e = .returned (.int .i64 X) ∧ Below w'.heap.size w' w2) → Calls Tryz.prog F args w' (fun e w2 => ∃ x : Int, e = .returned (.int .i64 x) ∧ But (fun g => g = p) w' w2 ∧ ∃ xs, Blk w2 p 97 xs ∧ xs.setIfInBounds 19 (.int .i64 x) = (fun k j => pc fo fi o d m false away (if k = 0 ∧ j ≤ 4 then 0 else 241)) 0 (j + 1)) :=
   fun he hx hc => hc.mono fun e w2 he2 => ⟨_, he2.1, But.of_below he2.2, _, hx.on he2.2, he⟩
  match j, hj with
  | 0, _ => exact ask0 rfl hP (after_ok (closed := false) w' hP)
  | 1, _ => exact ask0 rfl hP (formed_data (frames := 0) (ty := 0) (fl := 0) (pad := 0) (xi := false) (da := []) (sn := 0) w' hP)
  | 2, _ => exact (pieces_on (of := 0) (first := false) (ty := 0) w' hP).mono fun e w2 he => ⟨_, he.1, he.2.2, _, he.2.1, rfl⟩
  | 3, _ => exact ask0 rfl hP (whole_data (ty := 0) (fl := 0) w' hP)
  | 4, _ => exact ask0 rfl hP (streams_none (st := 1) w' (by decide) (h.began' hbut) hP)
  | 5, _ => exact absurd h0 (by decide)
  | 6, _ => exact absurd h0 (by decide)
 ·rintro e w' ⟨rfl, hbut, hP, hF⟩
  exact ⟨rfl, hbut, h.after hbut hF hP⟩
set_option maxRecDepth 100000 in
set_option maxHeartbeats 4000000 in
/-- what comes behind a fault -/
theorem Got_s1 {p fo fi o d m : Nat} {away : Int} (vb : Value) (w : World) (h : Pr w p fo fi o d m false away 241) (hb : By w.heap.size w vb [0, 0, 0, 4, 0, 0, 0, 0, 0]) :
  Calls Tryz.prog 13 #[Ptr p, vb] w fun e w' => e = .returned (.int .i64 241) ∧ But (fun g => g = p ∨ g = fi) w w' ∧ Pr w' p fo fi o d m false away 241 := by
 refine (Got_st (p := p) (fi := fi) (fun k j => pc fo fi o d m false away 241) (fun k j => 241) (fun _ _ => rfl) rfl (fun _ _ => rfl) ?_ ?_ [0, 0, 0, 4, 0, 0, 0, 0, 0] vb w h.blk h.feed hb (by decide) [({ ty := 4 }, {})] (by rfl) ?_).mono ?_
 ·intro k j hne
  first | exact absurd rfl hne | rfl | (have hc := fun hc => hne (if_pos hc);rw [if_neg hc, if_neg (by omega)])
 ·intro k
  first | rfl | (rw [if_neg (by omega), if_neg (by omega)])
 ·rintro k j w' vs hbut hP h0 hj hk ⟨b, hrow⟩
  have hk0 : k = 0 := by simpa using hk
  subst hk0
  obtain ⟨sa, sc, rfl⟩ := own_form hrow
  have ask0 : ∀ {F : FuncId} {X : Int} {args : Array Value} {xs : Array Value}, (xs.setIfInBounds 19 (.int .i64 X) = (fun k j => pc fo fi o d m false away 241) 0 (j + 1)) → Blk w' p 97 xs → Calls Tryz.prog F args w' (fun e w2 => e = .returned (.int .i64 X) ∧ Below w'.heap.size w' w2) → Calls Tryz.prog F args w' (fun e w2 => ∃ x : Int, e = .returned (.int .i64 x) ∧ But (fun g => g = p) w' w2 ∧ ∃ xs, Blk w2 p 97 xs ∧ xs.setIfInBounds 19 (.int .i64 x) = (fun k j => pc fo fi o d m false away 241) 0 (j + 1)) :=
   fun he hx hc => hc.mono fun e w2 he2 => ⟨_, he2.1, But.of_below he2.2, _, hx.on he2.2, he⟩
  match j, hj with
  | 0, _ => exact absurd h0 (by decide)
  | 1, _ => exact absurd h0 (by decide)
  | 2, _ => exact absurd h0 (by decide)
  | 3, _ => exact absurd h0 (by decide)
  | 4, _ => exact absurd h0 (by decide)
  | 5, _ => exact absurd h0 (by decide)
  | 6, _ => exact absurd h0 (by decide)
 ·rintro e w' ⟨rfl, hbut, hP, hF⟩
  exact ⟨rfl, hbut, h.after hbut hF hP⟩
end Go.Proofs.YtkeeofhjdffhbaaGreatDoor
