
/- A peer with one stream, its parts named; what comes to it, by its states. -/
import Derived.Test.YtmbakobindjjmaaGreatDoorPer8
import Derived.Test.YtmbakobindjjmaaGreatDoorGt2
namespace Go.Proofs.YtmbakobindjjmaaGreatDoor
open Go.RowKit Go.Dr

/-- how a peer with one stream stands -/
structure Ps where
  all : Int
  beg : Int
  sets : Int
  x : Int
  first : Bool
  hd : Bool
  body : Bytes
  bad : Int

structure Pw (w : World) (p fo fi o d m t s : Nat) (q : Ps) : Prop where
  blk : ∃ order of ends block, Blk w p 67 (px fo fi o d m q.all q.beg q.sets 1 order q.first of ends block 2147483647 q.bad) ∧ of = 0 ∧ (q.hd = false → order = .slice none 0 0)
  side : Blk w s 92 (if q.hd then sd1 q.body false else sd0)
  map : PMap Tryz.prog 3 w m [(1, s)]
  off : OM w o q.x
  out : Blk w fo 99 (feedC 16384 24 (.slice none 0 0) false)
  feed : Blk w fi 99 (feedC 16777215 24 (.slice none 0 0) false)
  ne : fo ≠ fi
  mo : m ≠ o
  dec : q.hd = false → Blk w d 104 #[.int .i64 65536, .int .i64 1099511627776, Ptr t, .bool false] ∧ ∃ a b, Blk w t 127 #[.int .i64 4096, .int .i64 0, .slice none 0 0, .int .i64 0, a, b]

theorem map_blk {w : World} {m b : Nat} {es : Array MapEntry} {n : Nat} {t : TypeId} {xs : Array Value} (h : w.heap[m]? = some (.map es n)) (hb : Blk w b t xs) : m ≠ b := fun e => by
  have := (e ▸ h).symm.trans (show w.heap[b]? = _ from hb)
  simp at this

theorem Pw.turnO {w w' : World} {p fo fi o d m t s : Nat} {q q' : Ps} {S : Nat → Prop} (h : Pw w p fo fi o d m t s q) (hb : But S w w') (hS : ∀ g, S g → g = p ∨ g = o ∨ g = s ∨ g = fi ∨ g = fo) (hd : q'.hd = false → q.hd = false)
    (hP : ∃ order of ends block, Blk w' p 67 (px fo fi o d m q'.all q'.beg q'.sets 1 order q'.first of ends block 2147483647 q'.bad) ∧ of = 0 ∧ (q'.hd = false → order = .slice none 0 0))
    (hs : Blk w' s 92 (if q'.hd then sd1 q'.body false else sd0)) (ho : OM w' o q'.x) (hf : Blk w' fi 99 (feedC 16777215 24 (.slice none 0 0) false)) (hout : Blk w' fo 99 (feedC 16384 24 (.slice none 0 0) false)) : Pw w' p fo fi o d m t s q' := by
  obtain ⟨or, of, en, bl, hP0, -, -⟩ := h.blk
  obtain ⟨es, c, hm⟩ := h.map.obj
  obtain ⟨es2, c2, hom⟩ := h.off.obj
  have ty : ∀ {g b : Nat} {t t' : TypeId} {xs ys : Array Value}, Blk w g t xs → Blk w b t' ys → t ≠ t' → g ≠ b := fun h1 h2 hne e => hne (blk_type (e ▸ h1) h2)
  refine ⟨hP, hs, h.map.block (hb.block m h.map.lt ?_), ho, hout, hf, h.ne, h.mo, ?_⟩
  · intro e
    rcases hS _ e with e | e | e | e | e
    · exact map_blk hm hP0 e
    · exact h.mo e
    · exact map_blk hm h.side e
    · exact map_blk hm h.feed e
    · exact map_blk hm h.out e
  · intro h0
    obtain ⟨hD, a, b, hT⟩ := h.dec (hd h0)
    refine ⟨hD.but hb ?_, a, b, hT.but hb ?_⟩
    · intro e
      rcases hS _ e with e | e | e | e | e
      · exact ty hD hP0 (by decide) e
      · exact map_blk hom hD e.symm
      · exact ty hD h.side (by decide) e
      · exact ty hD h.feed (by decide) e
      · exact ty hD h.out (by decide) e
    · intro e
      rcases hS _ e with e | e | e | e | e
      · exact ty hT hP0 (by decide) e
      · exact map_blk hom hT e.symm
      · exact ty hT h.side (by decide) e
      · exact ty hT h.feed (by decide) e
      · exact ty hT h.out (by decide) e

theorem Pw.turn {w w' : World} {p fo fi o d m t s : Nat} {q q' : Ps} {S : Nat → Prop} (h : Pw w p fo fi o d m t s q) (hb : But S w w') (hS : ∀ g, S g → g = p ∨ g = o ∨ g = s ∨ g = fi) (hd : q'.hd = false → q.hd = false)
    (hP : ∃ order of ends block, Blk w' p 67 (px fo fi o d m q'.all q'.beg q'.sets 1 order q'.first of ends block 2147483647 q'.bad) ∧ of = 0 ∧ (q'.hd = false → order = .slice none 0 0))
    (hs : Blk w' s 92 (if q'.hd then sd1 q'.body false else sd0)) (ho : OM w' o q'.x) (hf : Blk w' fi 99 (feedC 16777215 24 (.slice none 0 0) false)) : Pw w' p fo fi o d m t s q' := by
  obtain ⟨or, of, en, bl, hP0, -, -⟩ := h.blk
  obtain ⟨es2, c2, hom⟩ := h.off.obj
  have ty : ∀ {g b : Nat} {t t' : TypeId} {xs ys : Array Value}, Blk w g t xs → Blk w b t' ys → t ≠ t' → g ≠ b := fun h1 h2 hne e => hne (blk_type (e ▸ h1) h2)
  refine h.turnO hb (fun g hg => by rcases hS g hg with e | e | e | e; exact .inl e; exact .inr (.inl e); exact .inr (.inr (.inl e)); exact .inr (.inr (.inr (.inl e)))) hd hP hs ho hf (h.out.but hb ?_)
  intro e
  rcases hS _ e with e | e | e | e
  · exact ty h.out hP0 (by decide) e
  · exact map_blk hom h.out e.symm
  · exact ty h.out h.side (by decide) e
  · exact h.ne e

theorem Pw.on {w w' : World} {p fo fi o d m t s : Nat} {q : Ps} (h : Pw w p fo fi o d m t s q) (hb : Below w.heap.size w w') : Pw w' p fo fi o d m t s q := by
  obtain ⟨or, of, en, bl, hP0, h1, h2⟩ := h.blk
  exact h.turn (S := fun _ => False) (But.of_below hb) (fun _ e => e.elim) id ⟨or, of, en, bl, hP0.on hb, h1, h2⟩ (h.side.on hb) (h.off.block (hb.block o h.off.lt)) (h.feed.on hb)

theorem Pw.dist {w : World} {p fo fi o d m t s : Nat} {q : Ps} (h : Pw w p fo fi o d m t s q) : s ≠ p ∧ fi ≠ p ∧ fi ≠ s ∧ o ≠ p ∧ o ≠ s ∧ o ≠ fi ∧ p < w.heap.size ∧ fi < w.heap.size ∧ s < w.heap.size := by
  obtain ⟨or, of, en, bl, hP0, -, -⟩ := h.blk
  obtain ⟨es2, c2, hom⟩ := h.off.obj
  have ty : ∀ {g b : Nat} {t t' : TypeId} {xs ys : Array Value}, Blk w g t xs → Blk w b t' ys → t ≠ t' → g ≠ b := fun h1 h2 hne e => hne (blk_type (e ▸ h1) h2)
  exact ⟨ty h.side hP0 (by decide), ty h.feed hP0 (by decide), ty h.feed h.side (by decide), map_blk hom hP0, map_blk hom h.side, map_blk hom h.feed, hP0.lt, h.feed.lt, h.side.lt⟩

/-- the last answer of an ask is kept -/
theorem Pw.put {w : World} {p fo fi o d m t s : Nat} {q : Ps} {x : Int} (h : Pw w p fo fi o d m t s { q with bad := 0 }) (e : q.bad = x) : Pw (w.setCell ⟨p, 19, none⟩ (.int .i64 x)) p fo fi o d m t s q := by
  subst e
  obtain ⟨d1, d2, d3, d4, d5, d6, -⟩ := h.dist
  obtain ⟨or, of, en, bl, hP0, h1, h2⟩ := h.blk
  refine h.turn (q' := q) (S := fun g => g = p) ((But.refl (fun k => k = p) w).setCell (p := ⟨p, 19, none⟩) (.inl rfl) _) (fun _ e => .inl e) id ⟨or, of, en, bl, hP0.set 19 _, h1, h2⟩ (h.side.other d1 _) (h.off.block (Below.heap_setCell _ _ _ _ d4)) (h.feed.other d2 _)

theorem Got_pw {p fo fi o d m t s : Nat} (C : Nat → Nat → Ps) (h7 : ∀ k, C k 7 = C (k + 1) 0) (hG : ∀ k j, (C k j).bad ≠ 0 → C k (j + 1) = C k j) (l : Bytes) (vb : Value) (w : World) (h : Pw w p fo fi o d m t s (C 0 0)) (hb : By w.heap.size w vb l) (hl : l.length ≤ 1048576)
    (q : List (Fr × Ft)) (eR : itemsF 16777215 (l.length + 1) l = (q, [], false))
    (hs : ∀ k j w' vs, Pw w' p fo fi o d m t s (C k j) → (C k j).bad = 0 → j < 7 → ∀ hk : k < q.length, (∃ b, w'.ownsRow b 52 2 vs q[k].1.sets.length (scells q[k].1.sets)) →
      Calls Tryz.prog (askF j) #[Ptr p, itemV q[k].1 vs q[k].2] w' fun e w2 => e = .returned (.int .i64 (C k (j + 1)).bad) ∧ But (fun g => g = p ∨ g = o ∨ g = s) w' w2 ∧ Pw w2 p fo fi o d m t s { C k (j + 1) with bad := 0 }) :
    Calls Tryz.prog 14 #[Ptr p, vb] w fun e w' => e = .returned (.int .i64 (C q.length 0).bad) ∧ But (fun g => g = p ∨ g = o ∨ g = s ∨ g = fi) w w' ∧ Pw w' p fo fi o d m t s (C q.length 0) := by
  obtain ⟨d1, d2, d3, d4, d5, d6, d7, d8, d9⟩ := h.dist
  have hin : w.cell? ⟨p, 1, none⟩ = some (Ptr fi) := by obtain ⟨or, of, en, bl, hP0, -, -⟩ := h.blk; exact hP0.cell 1
  have c19 : ∀ {w' : World} {q : Ps}, Pw w' p fo fi o d m t s q → w'.cell? ⟨p, 19, none⟩ = some (.int .i64 q.bad) := fun hP => by obtain ⟨or, of, en, bl, hP0, -, -⟩ := hP.blk; exact hP0.cell 19
  have hR := Got_run l vb w d7 hin h.feed hb hl q [] false eR
    (fun k j w' => But (fun g => g = p ∨ g = o ∨ g = s ∨ g = fi) w w' ∧ Pw w' p fo fi o d m t s (C k j)) ?_ ?_ ?_ ?_ ?_
  · refine hR.mono ?_
    rintro e w' ⟨bad, rfl, hbad, h2, h3⟩
    have e1 := hbad.symm.trans (c19 h3)
    simp only [Option.some.injEq, Value.int.injEq, true_and] at e1
    subst e1
    exact ⟨rfl, h2, h3⟩
  · intro w0 w1 v' hb0 hb1 hf1 _ hz
    obtain rfl := hz rfl
    have h0 := h.on hb0
    have e1 : But (fun g => g = p ∨ g = o ∨ g = s ∨ g = fi) w0 w1 := hb1.more fun g hg => .inr (.inr (.inr hg))
    obtain ⟨or, of, en, bl, hP0, h1, h2⟩ := h0.blk
    exact ⟨(But.of_below hb0).trans e1, h0.turn hb1 (fun g hg => .inr (.inr (.inr hg))) id ⟨or, of, en, bl, hP0.but hb1 (fun e => d2 e.symm), h1, h2⟩ (h0.side.but hb1 (fun e => d3 e.symm)) (h0.off.block (hb1.block o h0.off.lt d6)) hf1⟩
  · rintro k w' ob ⟨h2, h3⟩
    exact ⟨h2.alloc _, h3.on ((Below.refl _ _).alloc (Nat.le_refl _) _)⟩
  · rintro k w' ⟨h2, h3⟩
    exact ⟨h2, h7 k ▸ h3⟩
  · rintro k j w' ⟨h2, h3⟩
    exact ⟨_, c19 h3, fun hne => ⟨h2, (hG k j hne).symm ▸ h3⟩⟩
  · rintro k j w' vs ⟨h2, h3⟩ hbad hj hk hrow
    have e1 := hbad.symm.trans (c19 h3)
    simp only [Option.some.injEq, Value.int.injEq, true_and] at e1
    refine (hs k j w' vs h3 e1.symm hj hk hrow).mono ?_
    rintro e w2 ⟨rfl, hb2, hP2⟩
    obtain ⟨or, of, en, bl, hP0, -, -⟩ := h3.blk
    obtain ⟨or2, of2, en2, bl2, hP02, -, -⟩ := hP2.blk
    obtain ⟨es2, c2, hom⟩ := h3.off.obj
    refine ⟨_, rfl, Kp.of hb2 fun g cur tt ht hg e => ?_, ⟨_, hP02, rfl⟩, ?_, hP2.put rfl⟩
    · rcases e with e | e | e
      · have h5 := blk_type (e ▸ hg) hP0
        rcases ht with rfl | rfl | rfl <;> exact absurd h5 (by decide)
      · exact map_blk hom (show Blk w' g tt cur from hg) e.symm
      · have h5 := blk_type (e ▸ hg) h3.side
        rcases ht with rfl | rfl | rfl <;> exact absurd h5 (by decide)
    · exact (h2.trans (hb2.more fun g hg => by rcases hg with hg | hg | hg; exact .inl hg; exact .inr (.inl hg); exact .inr (.inr (.inl hg)))).setCell (p := ⟨p, 19, none⟩) (.inl (.inl rfl)) _
end Go.Proofs.YtmbakobindjjmaaGreatDoor
