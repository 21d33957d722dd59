/- Parts of the proof of pt_root: the texts PtE. -/
import Derived.Test.YtkeeofhjdffhbaaGreatDoorT38
set_option linter.unusedSimpArgs false
set_option linter.unusedVariables false
set_option linter.unnecessarySimpa false
namespace Go.Proofs.YtkeeofhjdffhbaaGreatDoor
open Go Go.RowKit Go.Dr
/-- how such a peer stands -/
structure Pt where
 all : Int
 beg : Int
 sets : Int
 x : Int
 first : Bool
 hd : Bool
 body : Bytes
 e : Bool
 away : Int
 closed : Bool
 bad : Int
abbrev pz (fo fi o d m : Nat) (q : Pt) (order : Value) (ends : Bool) (block : Value) : Array Value := #[Ptr fo, Ptr fi, .int .i64 q.all, .int .i64 q.beg, .map (some o), Ptr d, .int .i64 16384, .int .i64 4096, .int .i64 q.sets, .slice none 0 0, .int .i64 1, .map (some m), order, .bool q.first, .int .i64 0, .bool ends, block, .int .i64 q.away, .bool q.closed, .int .i64 q.bad]
def OrdV (w : World) (hd : Bool) (v : Value) : Prop := if hd then ∃ a c, v = .slice a 1 c ∧ w.ownsRow 0 3 1 (.slice a 1 c) 1 [.int .i64 1] else v = .slice none 0 0
def FldV (w : World) (hd : Bool) (v : Value) : Prop := if hd then ∃ a c, v = .slice a 1 c ∧ w.ownsRow 0 41 3 (.slice a 1 c) 1 abF.toList else v = .slice none 0 0
abbrev sdz (hd : Bool) (v : Value) (b : Bytes) (e : Bool) : Array Value := if hd then sd2 v b e else sd0
theorem OrdV.but {w w' : World} {hd : Bool} {v : Value} {S : Nat → Prop} (h : OrdV w hd v) (hb : But S w w') (hS : ∀ g, S g → kd w g ≠ 3 + 1) : OrdV w' hd v := by
 cases hd with
 | false => exact h
 | true =>
  obtain ⟨a, c, e, ho⟩ := h
  exact ⟨a, c, e, own_same ho fun g hg => hb.block g (own_lt ho hg).2 fun hs => hS g hs (kd_own ho hg)⟩
theorem FldV.but {w w' : World} {hd : Bool} {v : Value} {S : Nat → Prop} (h : FldV w hd v) (hb : But S w w') (hS : ∀ g, S g → kd w g ≠ 41 + 1) : FldV w' hd v := by
 cases hd with
 | false => exact h
 | true =>
  obtain ⟨a, c, e, ho⟩ := h
  exact ⟨a, c, e, own_same ho fun g hg => hb.block g (own_lt ho hg).2 fun hs => hS g hs (kd_own ho hg)⟩
structure Pz (w : World) (p fo fi o d m t s m1 m2 : Nat) (q : Pt) : Prop where
 blk : ∃ order ends block, Blk w p 97 (pz fo fi o d m q order ends block) ∧ OrdV w q.hd order
 side : ∃ v, Blk w s 118 (sdz q.hd v q.body q.e) ∧ FldV w q.hd v
 map : PMap Tryz.prog 3 w m [(1, s)]
 off : OM w o q.x
 out : Blk w fo 158 (feedC 16384 24 (.slice none 0 0) false)
 feed : Blk w fi 158 (feedC 16777215 24 (.slice none 0 0) false)
 ne : fo ≠ fi
 mo : m ≠ o
 dec : q.hd = false → Blk w d 163 #[.int .i64 65536, .int .i64 1099511627776, Ptr t, .bool false] ∧ Blk w t 210 #[.int .i64 4096, .int .i64 0, .slice none 0 0, .int .i64 0, .map (some m1), .map (some m2)] ∧ w.heap[m1]? = some (.map #[] 0) ∧ w.heap[m2]? = some (.map #[] 0) ∧ m1 ≠ m2 ∧ m ≠ m1 ∧ m ≠ m2 ∧ o ≠ m1 ∧ o ≠ m2
section
variable {w w' : World} {p fo fi o d m t s m1 m2 : Nat} {q q' : Pt}
theorem Pz.dist (h : Pz w p fo fi o d m t s m1 m2 q) : s ≠ p ∧ fi ≠ p ∧ fi ≠ s ∧ o ≠ p ∧ o ≠ s ∧ o ≠ fi ∧ p < w.heap.size ∧ fi < w.heap.size ∧ s < w.heap.size := by
 obtain ⟨or, en, bl, hP0, -⟩ := h.blk
 obtain ⟨v, hS, -⟩ := h.side
 obtain ⟨es2, c2, hom⟩ := h.off.obj
 have ty : ∀ {g b : Nat} {t t' : TypeId} {xs ys : Array Value}, Blk w g t xs → Blk w b t' ys → t ≠ t' → g ≠ b := fun h1 h2 hne e => hne (blk_type (e ▸ h1) h2)
 exact ⟨ty hS hP0 (by decide), ty h.feed hP0 (by decide), ty h.feed hS (by decide), map_blk hom hP0, map_blk hom hS, map_blk hom h.feed, hP0.lt, h.feed.lt, hS.lt⟩
/-- the kinds of a peer's blocks -/
theorem Pz.kind (h : Pz w p fo fi o d m t s m1 m2 q) {g : Nat} (hg : g = p ∨ g = o ∨ g = s ∨ g = fi ∨ g = fo) : kd w g = 97 + 1 ∨ kd w g = 0 ∨ kd w g = 118 + 1 ∨ kd w g = 158 + 1 := by
 obtain ⟨or, en, bl, hP0, -⟩ := h.blk
 obtain ⟨v, hS, -⟩ := h.side
 obtain ⟨es2, c2, hom⟩ := h.off.obj
 rcases hg with rfl | rfl | rfl | rfl | rfl
 ·exact .inl (kd_blk hP0)
 ·exact .inr (.inl (kd_map hom))
 ·exact .inr (.inr (.inl (kd_blk hS)))
 ·exact .inr (.inr (.inr (kd_blk h.feed)))
 ·exact .inr (.inr (.inr (kd_blk h.out)))
theorem Pz.turnO {S : Nat → Prop} (h : Pz w p fo fi o d m t s m1 m2 q) (hb : But S w w') (hS : ∀ g, S g → g = p ∨ g = o ∨ g = s ∨ g = fi ∨ g = fo) (hhd : q'.hd = q.hd) {order : Value} (hord : OrdV w q.hd order) {ends : Bool} {block : Value} (hP : Blk w' p 97 (pz fo fi o d m q' order ends block)) {v : Value} (hv : FldV w q.hd v)
  (hs : Blk w' s 118 (sdz q'.hd v q'.body q'.e)) (ho : OM w' o q'.x) (hf : Blk w' fi 158 (feedC 16777215 24 (.slice none 0 0) false)) (hout : Blk w' fo 158 (feedC 16384 24 (.slice none 0 0) false)) : Pz w' p fo fi o d m t s m1 m2 q' := by
 obtain ⟨or, en, bl, hP0, -⟩ := h.blk
 obtain ⟨v0, hS0, -⟩ := h.side
 obtain ⟨es, c, hm⟩ := h.map.obj
 obtain ⟨es2, c2, hom⟩ := h.off.obj
 have kS : ∀ g, S g → kd w g = 97 + 1 ∨ kd w g = 0 ∨ kd w g = 118 + 1 ∨ kd w g = 158 + 1 := fun g hg => h.kind (hS g hg)
 have hmS : ∀ (k : Nat) (es : Array MapEntry) (c : Nat), w.heap[k]? = some (.map es c) → k ≠ o → ¬ S k := fun k es c hk hko e => by
  rcases hS _ e with e | e | e | e | e
  ·exact map_blk hk hP0 e
  ·exact hko e
  ·exact map_blk hk hS0 e
  ·exact map_blk hk h.feed e
  ·exact map_blk hk h.out e
 refine ⟨⟨order, ends, block, hP, hhd ▸ hord.but hb fun g hg => ?_⟩, ⟨v, hs, hhd ▸ hv.but hb fun g hg => ?_⟩, h.map.block (hb.block m h.map.lt (hmS m _ _ hm h.mo)), ho, hout, hf, h.ne, h.mo, fun h0 => ?_⟩
 ·rcases kS g hg with e | e | e | e <;> (rw [e];decide)
 ·rcases kS g hg with e | e | e | e <;> (rw [e];decide)
 ·obtain ⟨hD, hT, g1, g2, n12, n1, n2, n3, n4⟩ := h.dec (hhd ▸ h0)
  exact ⟨hD.but hb (fun e => by rcases kS _ e with e | e | e | e <;> (rw [kd_blk hD] at e;exact absurd e (by decide))), hT.but hb (fun e => by rcases kS _ e with e | e | e | e <;> (rw [kd_blk hT] at e;exact absurd e (by decide))), (hb.block _ (lt_of_block g1) (hmS _ _ _ g1 n3.symm)).trans g1, (hb.block _ (lt_of_block g2) (hmS _ _ _ g2 n4.symm)).trans g2, n12, n1, n2, n3, n4⟩
theorem Pz.turn {S : Nat → Prop} (h : Pz w p fo fi o d m t s m1 m2 q) (hb : But S w w') (hS : ∀ g, S g → g = p ∨ g = o ∨ g = s ∨ g = fi) (hhd : q'.hd = q.hd) {order : Value} (hord : OrdV w q.hd order) {ends : Bool} {block : Value} (hP : Blk w' p 97 (pz fo fi o d m q' order ends block)) {v : Value} (hv : FldV w q.hd v)
  (hs : Blk w' s 118 (sdz q'.hd v q'.body q'.e)) (ho : OM w' o q'.x) (hf : Blk w' fi 158 (feedC 16777215 24 (.slice none 0 0) false)) : Pz w' p fo fi o d m t s m1 m2 q' := by
 obtain ⟨or, en, bl, hP0, -⟩ := h.blk
 obtain ⟨v0, hS0, -⟩ := h.side
 obtain ⟨es2, c2, hom⟩ := h.off.obj
 refine h.turnO hb (fun g hg => by rcases hS g hg with e | e | e | e;exact .inl e;exact .inr (.inl e);exact .inr (.inr (.inl e));exact .inr (.inr (.inr (.inl e)))) hhd hord hP hv hs ho hf (h.out.but hb ?_)
 intro e
 rcases hS _ e with e | e | e | e
 ·have a := kd_blk h.out;rw [e, kd_blk hP0] at a;exact absurd a (by decide)
 ·exact map_blk hom h.out e.symm
 ·have a := kd_blk h.out;rw [e, kd_blk hS0] at a;exact absurd a (by decide)
 ·exact h.ne e
theorem Pz.on (h : Pz w p fo fi o d m t s m1 m2 q) (hb : Below w.heap.size w w') : Pz w' p fo fi o d m t s m1 m2 q := by
 obtain ⟨or, en, bl, hP0, hor⟩ := h.blk
 obtain ⟨v0, hS0, hv⟩ := h.side
 exact h.turn (S := fun _ => False) (But.of_below hb) (fun _ e => e.elim) rfl hor (hP0.on hb) hv (hS0.on hb) (h.off.block (hb.block o h.off.lt)) (h.feed.on hb)
/-- the last answer of an ask is kept -/
theorem Pz.put {x : Int} (h : Pz w p fo fi o d m t s m1 m2 { q with bad := 0 }) (e : q.bad = x) : Pz (w.setCell ⟨p, 19, none⟩ (.int .i64 x)) p fo fi o d m t s m1 m2 q := by
 subst e
 obtain ⟨d1, d2, d3, d4, d5, d6, -⟩ := h.dist
 obtain ⟨or, en, bl, hP0, hor⟩ := h.blk
 obtain ⟨v0, hS0, hv⟩ := h.side
 exact h.turn (q' := q) (S := fun g => g = p) ((But.refl (fun k => k = p) w).setCell (p := ⟨p, 19, none⟩) (.inl rfl) _) (fun _ e => .inl e) rfl hor (hP0.set 19 _) hv (hS0.other d1 _) (h.off.block (Below.heap_setCell _ _ _ _ d4)) (h.feed.other d2 _)
end
theorem Got_pt {p fo fi o d m t s m1 m2 : Nat} (C : Nat → Nat → Pt) (h7 : ∀ k, C k 7 = C (k + 1) 0) (hG : ∀ k j, (C k j).bad ≠ 0 → C k (j + 1) = C k j) (l : Bytes) (vb : Value) (w : World) (h : Pz w p fo fi o d m t s m1 m2 (C 0 0)) (hb : By w.heap.size w vb l) (hl : l.length ≤ 1048576)
  (q : List (Fr × Ft)) (eR : itemsF 16777215 (l.length + 1) l = (q, [], false)) (T : Nat → Prop)
  (hs : ∀ k j w' vs, Pz w' p fo fi o d m t s m1 m2 (C k j) → (C k j).bad = 0 → j < 7 → ∀ hk : k < q.length, (∃ b, w'.ownsRow b 31 2 vs q[k].1.sets.length (scells q[k].1.sets)) →
   Calls Tryz.prog (askF j) #[Ptr p, itemV q[k].1 vs q[k].2] w' fun e w2 => e = .returned (.int .i64 (C k (j + 1)).bad) ∧ But (fun g => g = p ∨ g = o ∨ g = s ∨ T g) w' w2 ∧ Kp w' w2 ∧ Pz w2 p fo fi o d m t s m1 m2 { C k (j + 1) with bad := 0 }) :
  Calls Tryz.prog 13 #[Ptr p, vb] w fun e w' => e = .returned (.int .i64 (C q.length 0).bad) ∧ But (fun g => g = p ∨ g = o ∨ g = s ∨ g = fi ∨ T g) w w' ∧ Pz w' p fo fi o d m t s m1 m2 (C q.length 0) := by
 obtain ⟨d1, d2, d3, d4, d5, d6, d7, d8, d9⟩ := h.dist
 have hin : w.cell? ⟨p, 1, none⟩ = some (Ptr fi) := by obtain ⟨or, en, bl, hP0, -⟩ := h.blk;exact hP0.cell 1
 have c19 : ∀ {w' : World} {q : Pt}, Pz w' p fo fi o d m t s m1 m2 q → w'.cell? ⟨p, 19, none⟩ = some (.int .i64 q.bad) := fun hP => by obtain ⟨or, en, bl, hP0, -⟩ := hP.blk;exact hP0.cell 19
 have hR := Got_run l vb w d7 hin h.feed hb hl q [] false eR
  (fun k j w' => But (fun g => g = p ∨ g = o ∨ g = s ∨ g = fi ∨ T g) w w' ∧ Pz w' p fo fi o d m t s m1 m2 (C k j)) ?_ ?_ ?_ ?_ ?_
 ·refine hR.mono ?_
  rintro e w' ⟨bad, rfl, hbad, h2, h3⟩
  have e1 := hbad.symm.trans (c19 h3)
  simp only [Option.some.injEq, Value.int.injEq, true_and] at e1
  subst e1
  exact ⟨rfl, h2, h3⟩
 ·intro w0 w1 v' hb0 hb1 hf1 _ hz
  obtain rfl := hz rfl
  have h0 := h.on hb0
  have e1 : But (fun g => g = p ∨ g = o ∨ g = s ∨ g = fi ∨ T g) w0 w1 := hb1.more fun g hg => .inr (.inr (.inr (.inl hg)))
  obtain ⟨or, en, bl, hP0, hor⟩ := h0.blk
  obtain ⟨v0, hS0, hv⟩ := h0.side
  exact ⟨(But.of_below hb0).trans e1, h0.turn hb1 (fun g hg => .inr (.inr (.inr hg))) rfl hor (hP0.but hb1 (fun e => d2 e.symm)) hv (hS0.but hb1 (fun e => d3 e.symm)) (h0.off.block (hb1.block o h0.off.lt d6)) hf1⟩
 ·rintro k w' ob ⟨h2, h3⟩
  exact ⟨h2.alloc _, h3.on ((Below.refl _ _).alloc (Nat.le_refl _) _)⟩
 ·rintro k w' ⟨h2, h3⟩
  exact ⟨h2, h7 k ▸ h3⟩
 ·rintro k j w' ⟨h2, h3⟩
  exact ⟨_, c19 h3, fun hne => ⟨h2, (hG k j hne).symm ▸ h3⟩⟩
 ·rintro k j w' vs ⟨h2, h3⟩ hbad hj hk hrow
  have e1 := hbad.symm.trans (c19 h3)
  simp only [Option.some.injEq, Value.int.injEq, true_and] at e1
  refine (hs k j w' vs h3 e1.symm hj hk hrow).mono ?_
  rintro e w2 ⟨rfl, hb2, hkp, hP2⟩
  obtain ⟨or2, en2, bl2, hP02, -⟩ := hP2.blk
  exact ⟨_, rfl, hkp, ⟨_, hP02, rfl⟩, (h2.trans (hb2.more fun g hg => by rcases hg with hg | hg | hg | hg;exact .inl hg;exact .inr (.inl hg);exact .inr (.inr (.inl hg));exact .inr (.inr (.inr (.inr hg))))).setCell (p := ⟨p, 19, none⟩) (.inl (.inl rfl)) _, hP2.put rfl⟩
end Go.Proofs.YtkeeofhjdffhbaaGreatDoor
