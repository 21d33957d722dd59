
/- What a client sent to a peer with one stream; a new peer with all its parts. -/
import Derived.Test.YtmbakobindjjmaaGreatDoorPer9
import Derived.Test.YtmbakobindjjmaaGreatDoorTkp
import Derived.Test.YtmbakobindjjmaaGreatDoorSnt2
import Derived.Test.YtmbakobindjjmaaGreatDoorChp4
namespace Go.Proofs.YtmbakobindjjmaaGreatDoor
open Go.RowKit Go.Dr

/-- a new peer, its parts named -/
structure P1 (w : World) (p fo fi o d m t : Nat) (pre : Nat) (beg sets : Int) : Prop where
  blk : Blk w p 67 (px fo fi o d m 65535 beg sets 0 (.slice none 0 0) true 0 false (.slice none 0 0) 2147483647 0)
  map : w.heap[m]? = some (.map #[] 0)
  off : w.heap[o]? = some (.map #[] 0)
  out : Blk w fo 99 (feedC 16384 pre (.slice none 0 0) false)
  feed : Blk w fi 99 (feedC 16777215 24 (.slice none 0 0) false)
  ne : fo ≠ fi
  mo : m ≠ o
  decB : Blk w d 104 #[.int .i64 65536, .int .i64 1099511627776, Ptr t, .bool false]
  tab : ∃ a b, Blk w t 127 #[.int .i64 4096, .int .i64 0, .slice none 0 0, .int .i64 0, a, b]

set_option maxRecDepth 100000 in
set_option maxHeartbeats 4000000 in
theorem PeerNew_all (w : World) : Calls Tryz.prog 8 #[] w fun e w' => ∃ p fo fi o d m t, e = .returned (Ptr p) ∧ Below w.heap.size w w' ∧ P1 w' p fo fi o d m t 0 65535 0 ∧ w.heap.size ≤ p ∧ w.heap.size ≤ fo ∧ w.heap.size ≤ fi ∧ w.heap.size ≤ o ∧ w.heap.size ≤ m := by
  have hmm := @run_makeMap Tryz.prog
  have hI := fun w => (show Calls Tryz.prog 20 #[.int .i64 16384, .bool true] w (fun e w' => e = .returned (Ptr w.heap.size) ∧ Blk w' w.heap.size 99 (feedC 16384 0 (.slice none 0 0) false) ∧ Below w.heap.size w w') from ChNew_any 16384 true w (by decide))
  have hJ := fun w => (show Calls Tryz.prog 20 #[.int .i64 16777215, .bool false] w (fun e w' => e = .returned (Ptr w.heap.size) ∧ Blk w' w.heap.size 99 (feedC 16777215 24 (.slice none 0 0) false) ∧ Below w.heap.size w w') from ChNew_any 16777215 false w (by decide))
  go_enter Tryz.func8, Tryz.ntmps8
  go_wp2_with (first
    | (go_at_call 21; (with_reducible refine (DecNew_any _).mono ?_); rintro e w5 ⟨d, t, rfl, hb5, ht5, htd5, hd5, hT5, hD5⟩; obtain ⟨q1, q2, q3, q4, q5⟩ := peer_made w4 (Ptr w.heap.size) (Ptr w3.heap.size) 67 w4.heap.size rfl; have p1 := q1.on hb5; have p5 : w5.cell? ⟨w4.heap.size + 1, 5, none⟩ = some (.pointer none) := p1.cell 5; have p6 := p1.free 5; have m1 := obj_below q2 hb5 (Array.getElem?_eq_some_iff.1 q2).1; have m2 := obj_below q3 hb5 (Array.getElem?_eq_some_iff.1 q3).1)
    | (go_at_call 20; (with_reducible refine (hJ _).mono ?_); rintro e w4 ⟨rfl, hI4, hb4⟩)
    | (go_at_call 20; (with_reducible refine (hI _).mono ?_); rintro e w3 ⟨rfl, hI3, hb3⟩))
  go_ret
  have s3 := hI3.lt
  have s4 := hI4.lt
  have hs3 := hb3.size
  have hs4 := hb4.size
  have hs5 := hb5.size
  rw [q4] at hs5 ht5
  refine ⟨_, w.heap.size, w3.heap.size, w4.heap.size + 1 + 1, d, w4.heap.size, t, rfl, ?_, ⟨?_, ?_, ?_, ?_, ?_, by omega, by omega, ?_, ?_⟩, by omega, by omega, by omega, by omega, by omega⟩
  · refine Below.setCell (((hb3.trans (hb4.mono hs3)).trans (q5.mono (by omega))).trans (hb5.mono (by rw [q4]; omega))) (by show w.heap.size ≤ w4.heap.size + 1; omega) _
  · have := p1.set 5 (Ptr d)
    simpa using this
  · exact (Below.heap_setCell _ _ _ _ (by show w4.heap.size ≠ w4.heap.size + 1; omega)).trans m1
  · exact (Below.heap_setCell _ _ _ _ (by show w4.heap.size + 1 + 1 ≠ w4.heap.size + 1; omega)).trans m2
  · exact ((((hI3.on hb4).below q5 (by omega)).on hb5)).other (by show w.heap.size ≠ w4.heap.size + 1; omega) _
  · exact ((hI4.below q5 (by omega)).on hb5).other (by show w3.heap.size ≠ w4.heap.size + 1; omega) _
  · exact hD5.other (by show d ≠ w4.heap.size + 1; omega) _
  · exact ⟨_, _, hT5.blk.other (by show t ≠ w4.heap.size + 1; omega) _⟩

theorem kp_but {p o fo : Nat} {w w2 : World} {ps fs : Array Value} {ms : Array MapEntry} {n : Nat} {S : Nat → Prop} (hb : But S w w2) (hS : ∀ g, S g → g = p ∨ g = fo ∨ ∃ ms n, w.heap[g]? = some (.map ms n)) (hP : Blk w p 67 ps) (hF : Blk w fo 99 fs) : Kp w w2 :=
  Kp.of hb fun g cur tt ht hg e => by
    rcases hS g e with e | e | ⟨ms, n, e⟩
    · have h5 := blk_type (e ▸ hg) hP
      rcases ht with rfl | rfl | rfl <;> exact absurd h5 (by decide)
    · have h5 := blk_type (e ▸ hg) hF
      rcases ht with rfl | rfl | rfl <;> exact absurd h5 (by decide)
    · rw [e] at hg; simp at hg

variable {p fo fi o d m t s : Nat}

set_option maxRecDepth 100000 in
set_option maxHeartbeats 4000000 in
/-- one frame that a client sent -/
theorem Sent_pw {q q' : Ps} {ty fl st : Nat} {pl : Bytes} {f : Fr} (hk : Tk 16384 ty fl st pl f) (vb : Value) (w : World) (h : Pw w p fo fi o d m t s q) (hB : By w.heap.size w vb (frB ty fl st pl))
    (hs : ∀ w' vs, Pw w' p fo fi o d m t s q → (∃ b, w'.ownsRow b 52 2 vs f.sets.length (scells f.sets)) →
      Calls Tryz.prog 23 #[Ptr p, frameV f vs] w' fun e w2 => e = .returned (.tuple #[]) ∧ But (fun g => g = p ∨ g = o) w' w2 ∧ Pw w2 p fo fi o d m t s q') :
    Calls Tryz.prog 9 #[Ptr p, vb] w fun e w' => e = .returned (.tuple #[]) ∧ But (fun g => g = p ∨ g = o ∨ g = fo) w w' ∧ Pw w' p fo fi o d m t s q' := by
  have hlen := frB_length ty fl st pl
  have hpl := hk.len
  have hR := itemsF_1 hk (by decide) (show 2 ≤ (frB ty fl st pl).length + 1 by omega)
  have hT := Feed_take (fb := fo) (most := 16384) _ vb w (by decide) h.out hB (by omega)
  rw [hR] at hT
  obtain ⟨or, of, en, bl, hP0, h1, h2⟩ := h.blk
  obtain ⟨es2, c2, hom⟩ := h.off.obj
  have ty' : ∀ {g b : Nat} {t t' : TypeId} {xs ys : Array Value}, Blk w g t xs → Blk w b t' ys → t ≠ t' → g ≠ b := fun h1 h2 hne e => hne (blk_type (e ▸ h1) h2)
  refine (Sent_run vb w (hP0.cell 0) [(f, {})] (fun w1 => But (fun k => k = fo) w w1 ∧ Blk w1 fo 99 (feedC 16384 24 (.slice none 0 0) false)) ?_ (fun k w' => But (fun g => g = p ∨ g = o ∨ g = fo) w w' ∧ Pw w' p fo fi o d m t s (if k = 0 then q else q')) ?_ ?_ ?_ ?_).mono ?_
  · refine hT.mono ?_
    rintro e w1 ⟨v, its, v', rfl, hits, hrow, hsets, hfeed, hv', hbut, hz⟩
    obtain rfl := hz rfl
    exact ⟨v, its, rfl, hits, hrow, hsets, hbut, hfeed⟩
  · rintro w1 ⟨hb1, hF1⟩
    exact ⟨hb1.more fun g hg => .inr (.inr hg), h.turnO hb1 (fun g hg => .inr (.inr (.inr (.inr hg)))) id ⟨or, of, en, bl, hP0.but hb1 (ty' hP0 h.out (by decide)), h1, h2⟩ (h.side.but hb1 (ty' h.side h.out (by decide))) (h.off.block (hb1.block o h.off.lt (map_blk hom h.out))) (h.feed.but hb1 (fun e => h.ne e.symm)) hF1⟩
  · rintro k w' ob ⟨h2, h3⟩
    exact ⟨h2.alloc _, h3.on ((Below.refl _ _).alloc (Nat.le_refl _) _)⟩
  · intro k hk
    obtain rfl : k = 0 := by simpa using hk
    rfl
  · rintro k w' vs ⟨h2, h3⟩ hk hrow
    obtain rfl : k = 0 := by simpa using hk
    refine (hs w' vs h3 hrow).mono ?_
    rintro e w2 ⟨rfl, hb2, hP2⟩
    obtain ⟨or, of, en, bl, hP3, -, -⟩ := h3.blk
    obtain ⟨es3, c3, hom3⟩ := h3.off.obj
    exact ⟨rfl, kp_but (p := p) (o := o) (fo := fo) (ms := es3) (n := c3) hb2 (fun g hg => by rcases hg with hg | hg; exact .inl hg; exact .inr (.inr ⟨_, _, hg ▸ hom3⟩)) hP3 h3.out, h2.trans (hb2.more fun g hg => by rcases hg with hg | hg; exact .inl hg; exact .inr (.inl hg)), hP2⟩
  · rintro e w' ⟨rfl, h2, h3⟩
    exact ⟨rfl, h2, h3⟩

set_option maxRecDepth 100000 in
set_option maxHeartbeats 4000000 in
/-- a client sets the beginning of its windows -/
theorem Sent_begin {q : Ps} (n : Nat) (hn : n < 2147483648) (h0 : 0 ≤ q.sets) (h1 : q.sets < 4294967296) (vb : Value) (w : World) (h : Pw w p fo fi o d m t s q) (hB : By w.heap.size w vb (frB 4 0 0 (beP 4 2 ++ beP n 4))) :
    Calls Tryz.prog 9 #[Ptr p, vb] w fun e w' => e = .returned (.tuple #[]) ∧ But (fun g => g = p ∨ g = o ∨ g = fo) w w' ∧ Pw w' p fo fi o d m t s { q with beg := n, sets := q.sets + 1 } := by
  refine Sent_pw (tk_set1 (by decide) hn) vb w h hB ?_
  rintro w' vs h3 ⟨b, hrow⟩
  obtain ⟨sa, sc, rfl⟩ := own_form hrow
  obtain ⟨or, of, en, bl, hP0, e1, e2⟩ := h3.blk
  obtain ⟨d1, d2, d3, d4, d5, d6, -⟩ := h3.dist
  refine (sent_set (n := n) w' hP0 rfl rfl h0 h1 hrow).mono ?_
  rintro e w2 ⟨rfl, hP2, hb2⟩
  exact ⟨rfl, hb2.more fun g hg => .inl hg, h3.turn hb2 (fun g hg => .inl hg) id ⟨or, of, en, bl, hP2, e1, e2⟩ (h3.side.but hb2 d1) (h3.off.block (hb2.block o h3.off.lt d4)) (h3.feed.but hb2 d2)⟩

set_option maxRecDepth 100000 in
set_option maxHeartbeats 4000000 in
/-- a client lets more come -/
theorem Sent_more {q : Ps} (n : Nat) (hn0 : 0 < n) (hn : n < 2147483648) (h0 : -4294967296 < q.x) (h1 : q.x < 4294967296) (vb : Value) (w : World) (h : Pw w p fo fi o d m t s q) (hB : By w.heap.size w vb (frB 8 0 1 (beP n 4))) :
    Calls Tryz.prog 9 #[Ptr p, vb] w fun e w' => e = .returned (.tuple #[]) ∧ But (fun g => g = p ∨ g = o ∨ g = fo) w w' ∧ Pw w' p fo fi o d m t s { q with x := q.x + n } := by
  refine Sent_pw (tk_win (by decide) hn0 hn) vb w h hB ?_
  rintro w' vs h3 ⟨b, hrow⟩
  obtain ⟨sa, sc, rfl⟩ := own_form hrow
  obtain ⟨or, of, en, bl, hP0, e1, e2⟩ := h3.blk
  obtain ⟨d1, d2, d3, d4, d5, d6, -⟩ := h3.dist
  refine (sent_win (n := (n : Int)) w' hP0 rfl h3.off (by omega) (by omega)).mono ?_
  rintro e w2 ⟨rfl, hO2, hb2⟩
  exact ⟨rfl, hb2.more fun g hg => .inr hg, h3.turn hb2 (fun g hg => .inr (.inl hg)) id ⟨or, of, en, bl, hP0.but hb2 (fun e => d4 e.symm), e1, e2⟩ (h3.side.but hb2 (fun e => d5 e.symm)) hO2 (h3.feed.but hb2 (fun e => d6 e.symm))⟩

set_option maxRecDepth 100000 in
set_option maxHeartbeats 4000000 in
/-- the preface, settings, a request -/
theorem Sent_hello (n : Nat) (hn : n < 2147483648) (l : Bytes) (hl : l.length ≤ 16384) (vb : Value) (w : World) (h : P1 w p fo fi o d m t 0 65535 0) (hB : By w.heap.size w vb (prefB ++ (frB 4 0 0 (beP 4 2 ++ beP n 4) ++ frB 1 5 1 l))) :
    Calls Tryz.prog 9 #[Ptr p, vb] w fun e w' => e = .returned (.tuple #[]) ∧ But (fun g => g = p ∨ g = o ∨ g = fo ∨ g = m) w w' ∧ ∃ s, w.heap.size ≤ s ∧ Pw w' p fo fi o d m t s ⟨65535, n, 1, 0, true, false, [], 0⟩ := by
  have hlen : (frB 4 0 0 (beP 4 2 ++ beP n 4) ++ frB 1 5 1 l).length = 24 + l.length := by simp only [List.length_append, frB_length, beP_length _ _ (show 2 ≤ 4 by decide), beP_length _ _ (show 4 ≤ 4 by decide)]; omega
  have hR := itemsF_2 (k := (frB 4 0 0 (beP 4 2 ++ beP n 4) ++ frB 1 5 1 l).length + 1) (tk_set1 (most := 16384) (n := n) (by decide) hn) (tk_head l hl 5 (.inr rfl)) (by decide) (by omega)
  have hT := Feed_first (fb := fo) (most := 16384) _ vb w (by decide) h.out hB (by omega)
  rw [hR] at hT
  have ty' : ∀ {g b : Nat} {t t' : TypeId} {xs ys : Array Value} {w : World}, Blk w g t xs → Blk w b t' ys → t ≠ t' → g ≠ b := fun h1 h2 hne e => hne (blk_type (e ▸ h1) h2)
  have keep : ∀ {w w' : World} {pre : Nat} {beg sets : Int} {S : Nat → Prop}, P1 w p fo fi o d m t pre beg sets → But S w w' → (∀ g, S g → g = p ∨ g = fo) → ∀ {pre' : Nat} {beg' sets' : Int}, Blk w' p 67 (px fo fi o d m 65535 beg' sets' 0 (.slice none 0 0) true 0 false (.slice none 0 0) 2147483647 0) → Blk w' fo 99 (feedC 16384 pre' (.slice none 0 0) false) → P1 w' p fo fi o d m t pre' beg' sets' := by
    intro w w' pre beg sets S h hb hS pre' beg' sets' hP hF
    obtain ⟨a, b, hT⟩ := h.tab
    refine ⟨hP, (hb.block m (lt_of_block h.map) fun e => ?_).trans h.map, (hb.block o (lt_of_block h.off) fun e => ?_).trans h.off, hF, h.feed.but hb fun e => ?_, h.ne, h.mo, h.decB.but hb fun e => ?_, a, b, hT.but hb fun e => ?_⟩
    · rcases hS _ e with e | e
      · exact map_blk h.map h.blk e
      · exact map_blk h.map h.out e
    · rcases hS _ e with e | e
      · exact map_blk h.off h.blk e
      · exact map_blk h.off h.out e
    · rcases hS _ e with e | e
      · exact ty' h.feed h.blk (by decide) e
      · exact h.ne e.symm
    · rcases hS _ e with e | e
      · exact ty' h.decB h.blk (by decide) e
      · exact ty' h.decB h.out (by decide) e
    · rcases hS _ e with e | e
      · exact ty' hT h.blk (by decide) e
      · exact ty' hT h.out (by decide) e
  refine (Sent_run vb w (h.blk.cell 0) [({ ty := 4, sets := [(4, n)] }, {}), ({ ty := 1, fl := 5, st := 1, data := l }, {})] (fun w1 => But (fun k => k = fo) w w1 ∧ Blk w1 fo 99 (feedC 16384 24 (.slice none 0 0) false)) ?_
    (fun k w' => But (fun g => g = p ∨ g = o ∨ g = fo ∨ g = m) w w' ∧ (match k with | 0 => P1 w' p fo fi o d m t 24 65535 0 | 1 => P1 w' p fo fi o d m t 24 n 1 | _ => ∃ s, w.heap.size ≤ s ∧ Pw w' p fo fi o d m t s ⟨65535, n, 1, 0, true, false, [], 0⟩)) ?_ ?_ ?_ ?_).mono ?_
  · refine hT.mono ?_
    rintro e w1 ⟨v, its, v', rfl, hits, hrow, hsets, hfeed, hv', hbut, hz⟩
    obtain rfl := hz rfl
    exact ⟨v, its, rfl, hits, hrow, hsets, hbut, hfeed⟩
  · rintro w1 ⟨hb1, hF1⟩
    exact ⟨hb1.more fun g hg => .inr (.inr (.inl hg)), keep h hb1 (fun g hg => .inr hg) (h.blk.but hb1 (ty' h.blk h.out (by decide))) hF1⟩
  · rintro k w' ob ⟨h2, h3⟩
    have hb := (Below.refl w'.heap.size w').alloc (Nat.le_refl _) ob
    have hP1 : ∀ {beg sets : Int}, P1 w' p fo fi o d m t 24 beg sets → P1 (w'.alloc ob) p fo fi o d m t 24 beg sets := fun h => keep (S := fun _ => False) h (But.of_below hb) (fun _ e => e.elim) (h.blk.on hb) (h.out.on hb)
    refine ⟨h2.alloc _, ?_⟩
    match k with
    | 0 => exact hP1 h3
    | 1 => exact hP1 h3
    | _ + 2 => obtain ⟨s, hs, hP⟩ := h3; exact ⟨s, hs, hP.on hb⟩
  · intro k hk
    match k, hk with
    | 0, _ => rfl
    | 1, _ => rfl
  · rintro k w' vs ⟨h2, h3⟩ hk ⟨b, hrow⟩
    obtain ⟨sa, sc, rfl⟩ := own_form hrow
    match k, hk with
    | 0, _ =>
      have h3 : P1 w' p fo fi o d m t 24 65535 0 := h3
      refine (sent_set (n := n) w' h3.blk rfl rfl (by decide) (by decide) hrow).mono ?_
      rintro e w2 ⟨rfl, hP2, hb2⟩
      exact ⟨rfl, kp_but (p := p) (o := o) (fo := fo) (ms := #[]) (n := 0) hb2 (fun g hg => .inl hg) h3.blk h3.out, h2.trans (hb2.more fun g hg => .inl hg), keep h3 hb2 (fun g hg => .inl hg) hP2 (h3.out.but hb2 (ty' h3.out h3.blk (by decide)))⟩
    | 1, _ =>
      have h3 : P1 w' p fo fi o d m t 24 n 1 := h3
      obtain ⟨ta, tb, hTb⟩ := h3.tab
      refine (sent_head w' h3.blk rfl rfl rfl h3.map h3.off (fun e => h3.mo e.symm)).mono ?_
      rintro e w2 ⟨rfl, s, hs, hP2, hM2, hS2, hO2, hb2⟩
      have hne : ∀ {g : Nat} {t : TypeId} {xs : Array Value}, Blk w' g t xs → t ≠ 67 → Blk w2 g t xs := fun hG ht => hG.but hb2 (by
        rintro (e | e | e)
        · exact ty' hG h3.blk ht e
        · exact map_blk h3.map hG e.symm
        · exact map_blk h3.off hG e.symm)
      refine ⟨rfl, kp_but (p := p) (o := o) (fo := fo) (ms := #[]) (n := 0) hb2 (fun g hg => ?_) h3.blk h3.out, h2.trans (hb2.more fun g hg => ?_), s, Nat.le_trans h2.size hs, ⟨⟨_, 0, false, _, hP2, rfl, fun _ => rfl⟩, hS2, hM2, hO2, hne h3.out (by decide), hne h3.feed (by decide), h3.ne, h3.mo, fun _ => ⟨hne h3.decB (by decide), ta, tb, hne hTb (by decide)⟩⟩⟩
      · rcases hg with hg | hg | hg
        · exact .inl hg
        · exact .inr (.inr ⟨_, _, hg ▸ h3.map⟩)
        · exact .inr (.inr ⟨_, _, hg ▸ h3.off⟩)
      · rcases hg with hg | hg | hg
        · exact .inl hg
        · exact .inr (.inr (.inr hg))
        · exact .inr (.inl hg)
  · rintro e w' ⟨rfl, h2, h3⟩
    exact ⟨rfl, h2, h3⟩
end Go.Proofs.YtmbakobindjjmaaGreatDoor
