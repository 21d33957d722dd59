
/- What comes to a peer with one stream: settings, a head and data; data alone. -/
import Derived.Test.YtmbakobindjjmaaGreatDoorPer9
import Derived.Test.YtmbakobindjjmaaGreatDoorTkp
namespace Go.Proofs.YtmbakobindjjmaaGreatDoor
open Go.RowKit Go.Dr

variable {p fo fi o d m t s : Nat}

theorem ask_b {w' : World} {F : FuncId} {args : Array Value} {q : Ps} (h : Pw w' p fo fi o d m t s q) (h0 : q.bad = 0) (hc : Calls Tryz.prog F args w' fun e w2 => e = .returned (.int .i64 0) ∧ Below w'.heap.size w' w2) :
    Calls Tryz.prog F args w' fun e w2 => e = .returned (.int .i64 q.bad) ∧ But (fun g => g = p ∨ g = o ∨ g = s) w' w2 ∧ Pw w2 p fo fi o d m t s { q with bad := 0 } :=
  hc.mono fun e w2 ⟨he, hb⟩ => ⟨by rw [h0]; exact he, But.of_below hb, by
    have e : ({ q with bad := 0 } : Ps) = q := by cases q; simp only at h0; subst h0; rfl
    rw [e]
    exact h.on hb⟩
theorem ask_p {w' : World} {F : FuncId} {args : Array Value} {q q' : Ps} {of : Int} {order block : Value} {ends : Bool} (h : Pw w' p fo fi o d m t s q) (h0 : q'.bad = 0) (e1 : q'.hd = q.hd) (e2 : q'.body = q.body) (e3 : q'.x = q.x) (hof : of = 0) (hor : q'.hd = false → order = .slice none 0 0)
    (hc : Calls Tryz.prog F args w' fun e w2 => e = .returned (.int .i64 0) ∧ Blk w2 p 67 (px fo fi o d m q'.all q'.beg q'.sets 1 order q'.first of ends block 2147483647 0) ∧ But (fun k => k = p) w' w2) :
    Calls Tryz.prog F args w' fun e w2 => e = .returned (.int .i64 q'.bad) ∧ But (fun g => g = p ∨ g = o ∨ g = s) w' w2 ∧ Pw w2 p fo fi o d m t s { q' with bad := 0 } := by
  obtain ⟨d1, d2, d3, d4, d5, d6, -⟩ := h.dist
  refine hc.mono ?_
  rintro e w2 ⟨rfl, hP, hb⟩
  refine ⟨by rw [h0], hb.more fun g hg => .inl hg, h.turn hb (fun g hg => .inl hg) (by simp only; rw [e1]; exact id) ⟨order, of, ends, block, hP, hof, hor⟩ ?_ (e3 ▸ h.off.block (hb.block o h.off.lt d4)) (h.feed.but hb d2)⟩
  show Blk w2 s _ (if q'.hd then _ else _)
  rw [e1, e2]
  exact h.side.but hb d1

set_option maxRecDepth 100000 in
set_option maxHeartbeats 4000000 in
/-- settings ask nothing, and are no longer the first behind the third ask -/
theorem ask_set {q : Ps} (hq : q.first = true) (hh : q.hd = false) (h0 : q.bad = 0) {w' : World} {vs : Value} (j : Nat) (hj : j < 7) (hP : Pw w' p fo fi o d m t s (if j ≤ 2 then q else { q with first := false })) (hrow : ∃ b, w'.ownsRow b 52 2 vs 0 []) :
    Calls Tryz.prog (askF j) #[Ptr p, itemV { ty := 4 } vs {}] w' fun e w2 => e = .returned (.int .i64 (if j + 1 ≤ 2 then q else { q with first := false }).bad) ∧ But (fun g => g = p ∨ g = o ∨ g = s) w' w2 ∧ Pw w2 p fo fi o d m t s { (if j + 1 ≤ 2 then q else { q with first := false }) with bad := 0 } := by
  obtain ⟨b, hrow⟩ := hrow
  obtain ⟨sa, sc, rfl⟩ := own_form hrow
  obtain ⟨all, beg, sets, x, first, hd, body, bad⟩ := q
  simp only at hq hh h0
  subst hq hh h0
  match j, hj with
  | 0, _ => obtain ⟨or, of, en, bl, hB, rfl, ho⟩ := hP.blk; exact ask_b hP rfl (after_ok (closed := false) w' hB)
  | 1, _ => obtain ⟨or, of, en, bl, hB, rfl, ho⟩ := hP.blk; exact ask_b hP rfl (formed_set (frames := 0) (ty := 0) (fl := 0) (pad := 0) (xi := false) (da := []) (sn := 0) w' hB)
  | 2, _ => obtain ⟨or, of, en, bl, hB, rfl, ho⟩ := hP.blk; exact ask_p (q' := ⟨all, beg, sets, x, false, false, body, 0⟩) hP rfl rfl rfl rfl rfl ho (pieces_first (of := 0) (first := false) (ty := 0) (fl := 0) w' hB)
  | 3, _ => obtain ⟨or, of, en, bl, hB, rfl, ho⟩ := hP.blk; exact ask_b hP rfl (whole_set (ty := 0) (fl := 0) w' hB)
  | 4, _ => obtain ⟨or, of, en, bl, hB, rfl, ho⟩ := hP.blk; exact ask_b hP rfl (streams_set (ty := 0) w' hB)
  | 5, _ => obtain ⟨or, of, en, bl, hB, rfl, ho⟩ := hP.blk; exact ask_b hP rfl (data_set (ty := 0) w' hB)
  | 6, _ => obtain ⟨or, of, en, bl, hB, rfl, ho⟩ := hP.blk; exact ask_b hP rfl (piece_set (ty := 0) w' hB)

set_option maxRecDepth 100000 in
set_option maxHeartbeats 4000000 in
/-- a head begins the stream's answer -/
theorem ask_head {q : Ps} (hq : q.first = false) (hh : q.hd = false) (h0 : q.bad = 0) {w' : World} {vs : Value} (j : Nat) (hj : j < 7) (hP : Pw w' p fo fi o d m t s (if j ≤ 6 then q else { q with hd := true, body := [] })) (hrow : ∃ b, w'.ownsRow b 52 2 vs 0 []) :
    Calls Tryz.prog (askF j) #[Ptr p, itemV { ty := 1, fl := 4, st := 1, data := [136] } vs {}] w' fun e w2 => e = .returned (.int .i64 (if j + 1 ≤ 6 then q else { q with hd := true, body := [] }).bad) ∧ But (fun g => g = p ∨ g = o ∨ g = s) w' w2 ∧ Pw w2 p fo fi o d m t s { (if j + 1 ≤ 6 then q else { q with hd := true, body := [] }) with bad := 0 } := by
  obtain ⟨b, hrow⟩ := hrow
  obtain ⟨sa, sc, rfl⟩ := own_form hrow
  obtain ⟨all, beg, sets, x, first, hd, body, bad⟩ := q
  simp only at hq hh h0
  subst hq hh h0
  match j, hj with
  | 0, _ => obtain ⟨or, of, en, bl, hB, rfl, ho⟩ := hP.blk; exact ask_b hP rfl (after_ok (closed := false) w' hB)
  | 1, _ => obtain ⟨or, of, en, bl, hB, rfl, ho⟩ := hP.blk; exact ask_b hP rfl (formed_head (frames := 0) (ty := 0) (fl := 0) (pad := 0) (xi := false) (da := []) (sn := 0) [136] (by decide) w' hB)
  | 2, _ => obtain ⟨or, of, en, bl, hB, rfl, ho⟩ := hP.blk; exact ask_p (q' := ⟨all, beg, sets, x, false, false, body, 0⟩) hP rfl rfl rfl rfl rfl ho (pieces_head (of := 0) (first := false) (ty := 0) w' hB)
  | 3, _ => obtain ⟨or, of, en, bl, hB, rfl, ho⟩ := hP.blk; exact ask_b hP rfl (whole_head (ty := 0) (fl := 0) w' hB)
  | 4, _ => obtain ⟨or, of, en, bl, hB, rfl, ho⟩ := hP.blk; exact ask_b hP rfl (streams_head w' hB rfl hP.map hP.side rfl rfl rfl)
  | 5, _ => obtain ⟨or, of, en, bl, hB, rfl, ho⟩ := hP.blk; exact ask_b hP rfl (data_head (ty := 0) w' hB)
  | 6, _ =>
    obtain ⟨or, of, en, bl, hB, rfl, ho⟩ := hP.blk
    obtain rfl := ho rfl
    obtain ⟨d1, d2, d3, d4, d5, d6, d7, d8, d9⟩ := hP.dist
    obtain ⟨hD, ta, tb, hT⟩ := hP.dec rfl
    refine (piece_head w' hB hD (hT.cell 2) hT.lt (fun e => absurd (blk_type (e ▸ hT) hB) (by decide)) hP.map hP.side).mono ?_
    rintro e w2 ⟨rfl, ⟨a', c', a2, n2, c2, hB2, hr2⟩, hS2, hb2⟩
    exact ⟨rfl, hb2.more fun g hg => by rcases hg with hg | hg; exact .inl hg; exact .inr (.inr hg), hP.turn hb2 (fun g hg => by rcases hg with hg | hg; exact .inl hg; exact .inr (.inr (.inl hg))) (by rintro ⟨⟩) ⟨_, 0, false, _, hB2, rfl, by rintro ⟨⟩⟩ hS2 (hP.off.block (hb2.block o hP.off.lt (by rintro (e | e); exact d4 e; exact d5 e))) (hP.feed.but hb2 (by rintro (e | e); exact d2 e; exact d3 e))⟩

set_option maxRecDepth 100000 in
set_option maxHeartbeats 4000000 in
/-- data that may come -/
theorem ask_yes {q : Ps} {l : Bytes} (hl : l.length ≤ 16384) (hq : q.first = false) (hh : q.hd = true) (h0 : q.bad = 0) (hb : q.body.length ≤ 1048576) (ha : (l.length : Int) ≤ q.all) (hx : (l.length : Int) = 0 ∨ (l.length : Int) ≤ q.beg + q.x) (ha2 : q.all < 4294967296) (hb1 : 0 ≤ q.beg) (hbg2 : q.beg < 4294967296) (hx1 : -4294967296 < q.x) (hx2 : q.x < 4294967296)
    {w' : World} {vs : Value} (j : Nat) (hj : j < 7) (hP : Pw w' p fo fi o d m t s (if j ≤ 5 then q else { q with all := q.all - l.length, x := q.x - l.length, body := q.body ++ l })) (hrow : ∃ b, w'.ownsRow b 52 2 vs 0 []) :
    Calls Tryz.prog (askF j) #[Ptr p, itemV { ty := 0, fl := 0, st := 1, data := l } vs {}] w' fun e w2 => e = .returned (.int .i64 (if j + 1 ≤ 5 then q else { q with all := q.all - l.length, x := q.x - l.length, body := q.body ++ l }).bad) ∧ But (fun g => g = p ∨ g = o ∨ g = s) w' w2 ∧ Pw w2 p fo fi o d m t s { (if j + 1 ≤ 5 then q else { q with all := q.all - l.length, x := q.x - l.length, body := q.body ++ l }) with bad := 0 } := by
  obtain ⟨b, hrow⟩ := hrow
  obtain ⟨sa, sc, rfl⟩ := own_form hrow
  obtain ⟨all, beg, sets, x, first, hd, body, bad⟩ := q
  simp only at hq hh h0
  subst hq hh h0
  match j, hj with
  | 0, _ => obtain ⟨or, of, en, bl, hB, rfl, ho⟩ := hP.blk; exact ask_b hP rfl (after_ok (closed := false) w' hB)
  | 1, _ => obtain ⟨or, of, en, bl, hB, rfl, ho⟩ := hP.blk; exact ask_b hP rfl (formed_dat (frames := 0) (ty := 0) (fl := 0) (pad := 0) (xi := false) (da := []) (sn := 0) l hl w' hB)
  | 2, _ => obtain ⟨or, of, en, bl, hB, rfl, ho⟩ := hP.blk; exact ask_p (q' := ⟨all, beg, sets, x, false, true, body, 0⟩) hP rfl rfl rfl rfl rfl ho (pieces_on (of := 0) (first := false) (ty := 0) w' hB)
  | 3, _ => obtain ⟨or, of, en, bl, hB, rfl, ho⟩ := hP.blk; exact ask_b hP rfl (whole_data (ty := 0) (fl := 0) w' hB)
  | 4, _ => obtain ⟨or, of, en, bl, hB, rfl, ho⟩ := hP.blk; exact ask_b hP rfl (streams_dat w' hB rfl hP.map hP.side rfl rfl rfl)
  | 5, _ =>
    obtain ⟨or, of, en, bl, hB, rfl, ho⟩ := hP.blk
    obtain ⟨d1, d2, d3, d4, d5, d6, d7, d8, d9⟩ := hP.dist
    refine (data_yes (l := l) w' hB rfl rfl rfl rfl hP.map hP.off hP.side rfl rfl rfl hP.mo hl hb ha hx ha2 hb1 hbg2 hx1 hx2).mono ?_
    rintro e w2 ⟨rfl, hB2, hO2, hS2, hb2⟩
    exact ⟨rfl, hb2, hP.turn hb2 (fun g hg => by rcases hg with hg | hg | hg; exact .inl hg; exact .inr (.inl hg); exact .inr (.inr (.inl hg))) (by rintro ⟨⟩) ⟨_, 0, _, _, hB2, rfl, by rintro ⟨⟩⟩ hS2 hO2 (hP.feed.but hb2 (by rintro (e | e | e); exact d2 e; exact d6 e.symm; exact d3 e))⟩
  | 6, _ => obtain ⟨or, of, en, bl, hB, rfl, ho⟩ := hP.blk; exact ask_b hP rfl (piece_dat (ty := 0) w' hB)

set_option maxRecDepth 100000 in
set_option maxHeartbeats 4000000 in
/-- data that may not come -/
theorem ask_no {q : Ps} {l : Bytes} (hl : l.length ≤ 16384) (hn : 0 < l.length) (hq : q.first = false) (hh : q.hd = true) (h0 : q.bad = 0) (ha : q.all < l.length ∨ q.beg + q.x < l.length) (hb1 : 0 ≤ q.beg) (hbg2 : q.beg < 4294967296) (hx1 : -4294967296 < q.x) (hx2 : q.x < 4294967296)
    {w' : World} {vs : Value} (j : Nat) (hj : j < 7) (hP : Pw w' p fo fi o d m t s (if j ≤ 5 then q else { q with bad := 243 })) (hz : (if j ≤ 5 then q else { q with bad := 243 }).bad = 0) (hrow : ∃ b, w'.ownsRow b 52 2 vs 0 []) :
    Calls Tryz.prog (askF j) #[Ptr p, itemV { ty := 0, fl := 0, st := 1, data := l } vs {}] w' fun e w2 => e = .returned (.int .i64 (if j + 1 ≤ 5 then q else { q with bad := 243 }).bad) ∧ But (fun g => g = p ∨ g = o ∨ g = s) w' w2 ∧ Pw w2 p fo fi o d m t s { (if j + 1 ≤ 5 then q else { q with bad := 243 }) with bad := 0 } := by
  obtain ⟨b, hrow⟩ := hrow
  obtain ⟨sa, sc, rfl⟩ := own_form hrow
  obtain ⟨all, beg, sets, x, first, hd, body, bad⟩ := q
  simp only at hq hh h0
  subst hq hh h0
  match j, hj with
  | 0, _ => obtain ⟨or, of, en, bl, hB, rfl, ho⟩ := hP.blk; exact ask_b hP rfl (after_ok (closed := false) w' hB)
  | 1, _ => obtain ⟨or, of, en, bl, hB, rfl, ho⟩ := hP.blk; exact ask_b hP rfl (formed_dat (frames := 0) (ty := 0) (fl := 0) (pad := 0) (xi := false) (da := []) (sn := 0) l hl w' hB)
  | 2, _ => obtain ⟨or, of, en, bl, hB, rfl, ho⟩ := hP.blk; exact ask_p (q' := ⟨all, beg, sets, x, false, true, body, 0⟩) hP rfl rfl rfl rfl rfl ho (pieces_on (of := 0) (first := false) (ty := 0) w' hB)
  | 3, _ => obtain ⟨or, of, en, bl, hB, rfl, ho⟩ := hP.blk; exact ask_b hP rfl (whole_data (ty := 0) (fl := 0) w' hB)
  | 4, _ => obtain ⟨or, of, en, bl, hB, rfl, ho⟩ := hP.blk; exact ask_b hP rfl (streams_dat w' hB rfl hP.map hP.side rfl rfl rfl)
  | 5, _ =>
    obtain ⟨or, of, en, bl, hB, rfl, ho⟩ := hP.blk
    refine (data_no (l := l) w' hB rfl rfl rfl hP.off hl hn ha hb1 hbg2 hx1 hx2).mono ?_
    rintro e w2 ⟨rfl, hb2⟩
    exact ⟨rfl, But.of_below hb2, hP.on hb2⟩
  | 6, _ => exact absurd (show (243 : Int) = 0 from hz) (by decide)

def gotD (q : Ps) (l : Bytes) : Ps := { q with all := q.all - l.length, x := q.x - l.length, body := q.body ++ l }

set_option maxRecDepth 100000 in
theorem Got_yes {q : Ps} {l : Bytes} (hl : l.length ≤ 16384) (hq : q.first = false) (hh : q.hd = true) (h0 : q.bad = 0) (hb : q.body.length ≤ 1048576) (ha : (l.length : Int) ≤ q.all) (hx : (l.length : Int) = 0 ∨ (l.length : Int) ≤ q.beg + q.x) (ha2 : q.all < 4294967296) (hb1 : 0 ≤ q.beg) (hbg2 : q.beg < 4294967296) (hx1 : -4294967296 < q.x) (hx2 : q.x < 4294967296)
    (vb : Value) (w : World) (h : Pw w p fo fi o d m t s q) (hB : By w.heap.size w vb (frB 0 0 1 l)) :
    Calls Tryz.prog 14 #[Ptr p, vb] w fun e w' => e = .returned (.int .i64 0) ∧ But (fun g => g = p ∨ g = o ∨ g = s ∨ g = fi) w w' ∧ Pw w' p fo fi o d m t s (gotD q l) := by
  have hlen := frB_length 0 0 1 l
  refine (Got_pw (fun k j => if k = 0 then (if j ≤ 5 then q else gotD q l) else gotD q l) ?_ ?_ _ vb w h hB (by omega) [({ ty := 0, fl := 0, st := 1, data := l }, {})] (itemsF_1 (tk_dat l (by omega) 0 (.inl rfl)) (by decide) (by omega)) ?_).mono ?_
  · intro k
    rcases k with _ | k <;> rfl
  · intro k j hne
    exfalso
    apply hne
    show (if k = 0 then (if j ≤ 5 then q else gotD q l) else gotD q l).bad = 0
    split
    · split <;> exact h0
    · exact h0
  · intro k j w' vs hP hb0 hj hk hrow
    obtain rfl : k = 0 := by simpa using hk
    exact ask_yes hl hq hh h0 hb ha hx ha2 hb1 hbg2 hx1 hx2 j hj hP hrow
  · rintro e w' ⟨rfl, h1, h2⟩
    exact ⟨by show Ending.returned (.int .i64 q.bad) = _; rw [h0], h1, h2⟩

set_option maxRecDepth 100000 in
theorem Got_no {q : Ps} {l : Bytes} (hl : l.length ≤ 16384) (hn : 0 < l.length) (hq : q.first = false) (hh : q.hd = true) (h0 : q.bad = 0) (ha : q.all < l.length ∨ q.beg + q.x < l.length) (hb1 : 0 ≤ q.beg) (hbg2 : q.beg < 4294967296) (hx1 : -4294967296 < q.x) (hx2 : q.x < 4294967296)
    (vb : Value) (w : World) (h : Pw w p fo fi o d m t s q) (hB : By w.heap.size w vb (frB 0 0 1 l)) :
    Calls Tryz.prog 14 #[Ptr p, vb] w fun e w' => e = .returned (.int .i64 243) ∧ But (fun g => g = p ∨ g = o ∨ g = s ∨ g = fi) w w' := by
  have hlen := frB_length 0 0 1 l
  refine (Got_pw (fun k j => if k = 0 then (if j ≤ 5 then q else { q with bad := 243 }) else { q with bad := 243 }) ?_ ?_ _ vb w h hB (by omega) [({ ty := 0, fl := 0, st := 1, data := l }, {})] (itemsF_1 (tk_dat l (by omega) 0 (.inl rfl)) (by decide) (by omega)) ?_).mono ?_
  · intro k
    rcases k with _ | k <;> rfl
  · intro k j hne
    rcases k with _ | k
    · by_cases hj : j ≤ 5
      · exact absurd (show (if j ≤ 5 then q else { q with bad := 243 }).bad = 0 by rw [if_pos hj]; exact h0) hne
      · show (if j + 1 ≤ 5 then q else { q with bad := 243 }) = (if j ≤ 5 then q else { q with bad := 243 })
        rw [if_neg hj, if_neg (by omega)]
    · rfl
  · intro k j w' vs hP hb0 hj hk hrow
    obtain rfl : k = 0 := by simpa using hk
    exact ask_no hl hn hq hh h0 ha hb1 hbg2 hx1 hx2 j hj hP hb0 hrow
  · rintro e w' ⟨rfl, h1, h2⟩
    exact ⟨rfl, h1⟩

set_option maxRecDepth 100000 in
/-- settings, a head, data -/
theorem Got_begin {q : Ps} {l : Bytes} (hl : l.length ≤ 16384) (hq : q.first = true) (hh : q.hd = false) (h0 : q.bad = 0) (ha : (l.length : Int) ≤ q.all) (hx : (l.length : Int) = 0 ∨ (l.length : Int) ≤ q.beg + q.x) (ha2 : q.all < 4294967296) (hb1 : 0 ≤ q.beg) (hbg2 : q.beg < 4294967296) (hx1 : -4294967296 < q.x) (hx2 : q.x < 4294967296)
    (vb : Value) (w : World) (h : Pw w p fo fi o d m t s q) (hB : By w.heap.size w vb (frB 4 0 0 [] ++ (frB 1 4 1 [136] ++ frB 0 0 1 l))) :
    Calls Tryz.prog 14 #[Ptr p, vb] w fun e w' => e = .returned (.int .i64 0) ∧ But (fun g => g = p ∨ g = o ∨ g = s ∨ g = fi) w w' ∧ Pw w' p fo fi o d m t s { q with first := false, hd := true, body := l, all := q.all - l.length, x := q.x - l.length } := by
  have hlen : (frB 4 0 0 [] ++ (frB 1 4 1 [136] ++ frB 0 0 1 l)).length = 28 + l.length := by simp only [List.length_append, frB_length, List.length_nil, List.length_cons]; omega
  obtain ⟨all, beg, sets, x, first, hd, body, bad⟩ := q
  simp only at hq hh h0 ha hx ha2 hb1 hbg2 hx1 hx2
  subst hq hh h0
  let q1 : Ps := ⟨all, beg, sets, x, false, false, body, 0⟩
  let q2 : Ps := ⟨all, beg, sets, x, false, true, [], 0⟩
  let q3 : Ps := ⟨all - l.length, beg, sets, x - l.length, false, true, l, 0⟩
  refine (Got_pw (fun k j => match k with | 0 => (if j ≤ 2 then ⟨all, beg, sets, x, true, false, body, 0⟩ else q1) | 1 => (if j ≤ 6 then q1 else q2) | 2 => (if j ≤ 5 then q2 else q3) | _ => q3) ?_ ?_ _ vb w h hB (by omega)
    [({ ty := 4 }, {}), ({ ty := 1, fl := 4, st := 1, data := [136] }, {}), ({ ty := 0, fl := 0, st := 1, data := l }, {})] (itemsF_3 tk_set0 (tk_head [136] (by decide) 4 (.inl rfl)) (tk_dat l (by omega) 0 (.inl rfl)) (by decide) (by omega)) ?_).mono ?_
  · intro k
    match k with
    | 0 => rfl
    | 1 => rfl
    | 2 => rfl
    | _ + 3 => rfl
  · intro k j hne
    exfalso
    apply hne
    match k with
    | 0 => simp only; split <;> rfl
    | 1 => simp only; split <;> rfl
    | 2 => simp only; split <;> rfl
    | _ + 3 => rfl
  · intro k j w' vs hP hb0 hj hk hrow
    match k, hk with
    | 0, _ => exact ask_set (q := ⟨all, beg, sets, x, true, false, body, 0⟩) rfl rfl rfl j hj hP hrow
    | 1, _ => exact ask_head (q := q1) rfl rfl rfl j hj hP hrow
    | 2, _ => exact ask_yes (q := q2) hl rfl rfl rfl (Nat.zero_le _) ha hx ha2 hb1 hbg2 hx1 hx2 j hj hP hrow
  · rintro e w' ⟨rfl, h1, h2⟩
    exact ⟨rfl, h1, h2⟩
end Go.Proofs.YtmbakobindjjmaaGreatDoor
