
/- The walk of a head that comes whole: the peer's piece. -/
import Derived.Test.YtmbakobindjjmaaGreatDoorPer7
import Derived.Test.YtmbakobindjjmaaGreatDoorPut2
namespace Go.Proofs.YtmbakobindjjmaaGreatDoor
open Go.RowKit Go.Dr

/-- 'append(b, s...)' of a text, at the operation -/
theorem wp_appStr {P : Program} {o : Oper} {a : Act} {K : Act → World → Prop} {Q : Exit → Act → World → Prop} {w : World} (s x : Operand) (t u : TypeId)
    (ho : o.op = .call { callee := .builtin .append, args := #[s, x], argTypes := #[t, u] })
    (base : Nat) (e : TypeId) (ht : P.underlying t = some (.slice e)) (hu : P.underlying u = some .string) (hi : (P.info? e).map (fun i => (i.zero, i.size, i.bytes)) = some (some (.int .u8 0), 1, 1))
    (v : Value) (n : Nat) (xs : List Value) (hs : a.eval s = v) (hown : w.ownsRow base e 1 v n xs) (l : Bytes) (hx : a.eval x = S l)
    (hm : n + l.length ≤ 140737488355328) (hbase : base ≤ w.heap.size)
    (h : ∀ a' c' w', w'.ownsRow base e 1 (.slice a' (n + l.length) c') (n + l.length) (xs ++ l.map B8) → Below base w w' → K (a.put o.dst (.slice a' (n + l.length) c')) w') : Oper.wp P o a w K Q := by
  obtain ⟨i, hi, hz, hsize, hby⟩ := info_parts hi
  obtain ⟨v', w', hr, h2, h3, h4⟩ := Go.Lib.run_append_own_string (P := P) w base t u o.type e i ht hu hi hz hsize hby v n xs hown ⟨l.toArray⟩ (by unfold maxLen; show n + l.length ≤ _; omega) hm hbase
  have hx' : a.eval x = .string ⟨l.toArray⟩ := hx
  unfold Oper.wp execOp
  simp only [ho, resolve, invoke, builtin, Sem.run_bind, Sem.run_pure, Result.andThen_ok, List.map_toArray, List.map_cons, List.map_nil, hs, hx', hr]
  rw [strCells_b8] at h2
  have ho2 : w'.ownsRow base e 1 v' (n + l.length) (xs ++ l.map B8) := h2
  obtain ⟨a', c', rfl⟩ := own_form ho2
  exact h a' c' w' ho2 (Bl.grown (Below.refl base w) hown h3 hbase (Nat.le_refl _))

/-- a peer's cells -/
abbrev px (fo fi o d m : Nat) (all beg sets last : Int) (order : Value) (first : Bool) (of : Int) (ends : Bool) (block : Value) (away bad : Int) : Array Value := #[Ptr fo, Ptr fi, .int .i64 all, .int .i64 beg, .map (some o), Ptr d, .int .i64 16384, .int .i64 4096, .int .i64 sets, .slice none 0 0, .int .i64 last, .map (some m), order, .bool first, .int .i64 of, .bool ends, block, .int .i64 away, .bool false, .int .i64 bad]

set_option maxRecDepth 100000 in
set_option maxHeartbeats 8000000 in
theorem piece_head {p fo fi o d m t s sc : Nat} {all beg sets last code la inc dep wt xc xs away bad of0 : Int} {sole xi ends0 : Bool} {sa : Option Addr} {blk0 : Value} (w : World) (h : Blk w p 67 (px fo fi o d m all beg sets last (.slice none 0 0) false of0 ends0 blk0 away bad))
    (hD : Blk w d 104 #[.int .i64 65536, .int .i64 1099511627776, Ptr t, .bool false]) (ht : w.cell? ⟨t, 2, none⟩ = some (.slice none 0 0)) (htl : t < w.heap.size) (htp : t ≠ p)
    (hm : PMap Tryz.prog 3 w m [(1, s)]) (hs : Blk w s 92 sd0) :
    Calls Tryz.prog 35 #[Ptr p, .agg #[.int .i64 1, .int .i64 4, .int .i64 1, S [136], .int .i64 0, .slice sa 0 sc, .int .i64 code, .int .i64 la, .int .i64 inc, .int .i64 dep, .int .i64 wt, .bool sole, .bool xi, .int .i64 xc, .int .i64 xs]] w fun e w' => e = .returned (.int .i64 0) ∧ (∃ a' c' a2 n2 c2, Blk w' p 67 (px fo fi o d m all beg sets last (.slice a' 1 c') false 0 false (.slice a2 n2 c2) away bad) ∧ w'.ownsRow w.heap.size 3 1 (.slice a' 1 c') 1 [.int .i64 1]) ∧ Blk w' s 92 (sd1 [] false) ∧ But (fun k => k = p ∨ k = s) w w' := by
  obtain ⟨W, eW⟩ : ∃ W, W = (w.alloc (.cells #[.int .i64 1, .int .i64 4, .int .i64 1, S [136], .int .i64 0, .slice sa 0 sc, .int .i64 code, .int .i64 la, .int .i64 inc, .int .i64 dep, .int .i64 wt, .bool sole, .bool xi, .int .i64 xc, .int .i64 xs] 75)).alloc (.cells #[.int .i64 1, .int .i64 4, .int .i64 1, S [136], .int .i64 0, .slice sa 0 sc, .int .i64 code, .int .i64 la, .int .i64 inc, .int .i64 dep, .int .i64 wt, .bool sole] 33) := ⟨_, rfl⟩
  have hbW : Below w.heap.size w W := by rw [eW]; exact ((Below.refl _ _).alloc (Nat.le_refl _) _).alloc (by simp) _
  have hF : Blk W (w.heap.size + 1) 33 #[.int .i64 1, .int .i64 4, .int .i64 1, S [136], .int .i64 0, .slice sa 0 sc, .int .i64 code, .int .i64 la, .int .i64 inc, .int .i64 dep, .int .i64 wt, .bool sole] := by rw [eW, ← World.size_alloc]; exact Blk.new _ _ _
  have hP := h.on hbW
  have hS := hs.on hbW
  have hM := pmap_below hm hbW
  have hpl := h.lt
  have hF0 : W.cell? ⟨w.heap.size + 1, 0, none⟩ = some (.int .i64 1) := hF.cell 0
  have hF1 : W.cell? ⟨w.heap.size + 1, 1, none⟩ = some (.int .i64 4) := hF.cell 1
  have hF2 : W.cell? ⟨w.heap.size + 1, 2, none⟩ = some (.int .i64 1) := hF.cell 2
  have y14 : W.cell? ⟨p, 14, none⟩ = some (.int .i64 of0) := hP.cell 14
  have y15 : W.cell? ⟨p, 15, none⟩ = some (.bool ends0) := hP.cell 15
  have y16 : W.cell? ⟨p, 16, none⟩ = some blk0 := hP.cell 16
  have f14 := hP.free 14
  have f15 := hP.free 15
  have f16 := hP.free 16
  have hpF : p ≠ w.heap.size + 1 := by omega
  have hpF' : w.heap.size + 1 ≠ p := by omega
  have bt : bits .and .i64 4 1 = 0 := by decide
  go_enter Tryz.func35, Tryz.ntmps35
  go_upto_region 3 with fail
  rw [← eW]
  clear eW
  go_cut [5] (fun s5 wx => s5 = Ptr (w.heap.size + 1) ∧ Blk wx p 67 (px fo fi o d m all beg sets last (.slice none 0 0) false 1 false (.slice none 0 0) away bad) ∧ But (fun k => k = p) W wx)
  case first =>
    go_region
    all_goals (go_wp2; go_meet)
    all_goals (first | exact ⟨rfl, (((hP.set 14 _).set 15 _).set 16 _).drew, ((((But.refl (fun k => k = p) _).setCell (p := ⟨p, 14, none⟩) (.inl rfl) _).setCell (p := ⟨p, 15, none⟩) (.inl rfl) _).setCell (p := ⟨p, 16, none⟩) (.inl rfl) _).drew⟩ | exact ⟨rfl, (((hP.set 14 _).set 16 _).set 15 _).drew, ((((But.refl (fun k => k = p) _).setCell (p := ⟨p, 14, none⟩) (.inl rfl) _).setCell (p := ⟨p, 16, none⟩) (.inl rfl) _).setCell (p := ⟨p, 15, none⟩) (.inl rfl) _).drew⟩ | exact ⟨rfl, (((hP.set 15 _).set 14 _).set 16 _).drew, ((((But.refl (fun k => k = p) _).setCell (p := ⟨p, 15, none⟩) (.inl rfl) _).setCell (p := ⟨p, 14, none⟩) (.inl rfl) _).setCell (p := ⟨p, 16, none⟩) (.inl rfl) _).drew⟩ | exact ⟨rfl, (((hP.set 15 _).set 16 _).set 14 _).drew, ((((But.refl (fun k => k = p) _).setCell (p := ⟨p, 15, none⟩) (.inl rfl) _).setCell (p := ⟨p, 16, none⟩) (.inl rfl) _).setCell (p := ⟨p, 14, none⟩) (.inl rfl) _).drew⟩ | exact ⟨rfl, (((hP.set 16 _).set 14 _).set 15 _).drew, ((((But.refl (fun k => k = p) _).setCell (p := ⟨p, 16, none⟩) (.inl rfl) _).setCell (p := ⟨p, 14, none⟩) (.inl rfl) _).setCell (p := ⟨p, 15, none⟩) (.inl rfl) _).drew⟩ | exact ⟨rfl, (((hP.set 16 _).set 15 _).set 14 _).drew, ((((But.refl (fun k => k = p) _).setCell (p := ⟨p, 16, none⟩) (.inl rfl) _).setCell (p := ⟨p, 15, none⟩) (.inl rfl) _).setCell (p := ⟨p, 14, none⟩) (.inl rfl) _).drew⟩)
  case rest =>
    obtain ⟨rfl, hP1, hb1⟩ := hcut
    obtain ⟨w1, rfl⟩ : ∃ w1, w1 = wc := ⟨_, rfl⟩
    clear y14 y15 y16 f14 f15 f16 hF0 hF1 hF2
    have hF1 := hF.but hb1 (fun e => hpF' e)
    have g0 : w1.cell? ⟨w.heap.size + 1, 0, none⟩ = some (.int .i64 1) := hF1.cell 0
    have g3 : w1.cell? ⟨w.heap.size + 1, 3, none⟩ = some (S [136]) := hF1.cell 3
    have y16 : w1.cell? ⟨p, 16, none⟩ = some (.slice none 0 0) := hP1.cell 16
    have hpW : p < W.heap.size := hP.lt
    have hs1 : W.heap.size ≤ w1.heap.size := hb1.size
    go_upto_region 6 with fail
    go_cut [5] (fun s5 wx => s5 = Ptr (w.heap.size + 1) ∧ ∃ a2 c2, Blk wx p 67 (px fo fi o d m all beg sets last (.slice none 0 0) false 1 false (.slice a2 1 c2) away bad) ∧ wx.ownsRow W.heap.size 5 1 (.slice a2 1 c2) 1 ([136].map B8) ∧ But (fun k => k = p) W wx)
    case first =>
      go_region_law (refine step_of ?_ (by rfl); refine wp_appStr _ _ 28 9 rfl W.heap.size 5 Tryz.underlying28 Tryz.underlying9 (by kernel_rfl) _ _ _ rfl (World.ownsRow_nil _ _ _ _) [136] rfl (by decide) hs1 ?_; intro a3 c3 w4 hown3 hb4; have hP4 := hP1.drew.below hb4 hpW; have z16 : w4.cell? ⟨p, 16, none⟩ = some (.slice none 0 0) := hP4.cell 16; have zf := hP4.free 16)
      all_goals (go_wp2; go_meet; exact ⟨rfl, a3, c3, hP4.set 16 _, ownsRow_setCell_below hown3 hpW _, (but_on (hb1.drew) hb4).setCell (p := ⟨p, 16, none⟩) (.inl rfl) _⟩)
    case rest =>
      obtain ⟨rfl, a2, c2, hP2, hr2, hb2⟩ := hcut
      obtain ⟨w2, rfl⟩ : ∃ w2, w2 = wc := ⟨_, rfl⟩
      clear g0 g3 y16 hP1 hb1 hs1 hF1
      have hF2 := hF.but hb2 (fun e => hpF' e)
      have g1 : w2.cell? ⟨w.heap.size + 1, 1, none⟩ = some (.int .i64 4) := hF2.cell 1
      have hmp : m ≠ p := fun e => by
        obtain ⟨es, cl, h5⟩ := hm.obj
        have := (e ▸ h5).symm.trans (show w.heap[p]? = _ from h)
        simp at this
      have hsp : s ≠ p := fun e => by
        have h5 := blk_type (e ▸ hs) h
        revert h5
        decide
      have hdp : d ≠ p := fun e => by
        have h5 := blk_type (e ▸ hD) h
        revert h5
        decide
      have hM2 := hM.block (hb2.block m hM.lt hmp)
      have hS2 := hS.but hb2 hsp
      have hD2 := (hD.on hbW).but hb2 hdp
      have hW1 := hbW.size
      have ht2 : w2.cell? ⟨t, 2, none⟩ = some (.slice none 0 0) := by
        rw [← ht]
        simp only [World.cell?, hb2.block t (Nat.lt_of_lt_of_le htl hW1) htp, hbW.block t htl]
      have k1 := one_get hM2
      have k2 := one_get (show PMap Tryz.prog 3 w2.drew m [(1, s)] from hM2.block rfl)
      have y11 : w2.cell? ⟨p, 11, none⟩ = some (.map (some m)) := hP2.cell 11
      have y14 : w2.cell? ⟨p, 14, none⟩ = some (.int .i64 1) := hP2.cell 14
      have f14 := hP2.free 14
      go_upto_region 9 with fail
      go_cut [6] (fun s6 wx => s6 = Ptr s ∧ w2.drew = wx)
      case first =>
        go_region
        all_goals (go_wp2; go_meet; exact ⟨rfl, rfl⟩)
      case rest =>
        obtain ⟨rfl, rfl⟩ := hcut
        have q14 : w2.drew.cell? ⟨p, 14, none⟩ = some (.int .i64 1) := y14
        have qf14 : w2.drew.frozen? ⟨p, 14, none⟩ = false := f14
        have hP3 := (hP2.set 14 (.int .i64 0)).drew
        have hS3 := (hS2.other (p := ⟨p, 14, none⟩) hsp (.int .i64 0)).drew
        have hD3 := (hD2.other (p := ⟨p, 14, none⟩) hdp (.int .i64 0)).drew
        have hb3 := (hb2.setCell (p := ⟨p, 14, none⟩) (.inl rfl) (.int .i64 0)).drew
        have hr3 := own_dr (ownsRow_setCell_below (a := ⟨p, 14, none⟩) hr2 hpW (.int .i64 0))
        obtain ⟨w3, e3⟩ : ∃ w3, w3 = (w2.setCell ⟨p, 14, none⟩ (.int .i64 0)).drew := ⟨_, rfl⟩
        rw [← e3] at hP3 hS3 hD3 hb3 hr3
        have ht3 : w3.cell? ⟨t, 2, none⟩ = some (.slice none 0 0) := by
          rw [← ht]
          simp only [World.cell?, hb3.block t (Nat.lt_of_lt_of_le htl hW1) htp, hbW.block t htl]
        go_upto_region 11 with fail
        rw [← e3]
        clear e3 q14 qf14 y14 f14 y11 k1 k2 hM2 g1 hF2 ht2 hD2 hS2 hP2 hr2
        have x5 : w3.cell? ⟨p, 5, none⟩ = some (Ptr d) := hP3.cell 5
        have x5' : w3.drew.cell? ⟨p, 5, none⟩ = some (Ptr d) := hP3.cell 5
        have x16 : w3.cell? ⟨p, 16, none⟩ = some (.slice a2 1 c2) := hP3.cell 16
        have x16' : w3.drew.cell? ⟨p, 16, none⟩ = some (.slice a2 1 c2) := hP3.cell 16
        have hDe := Decode_one w3.drew hD3.drew (Rd.own (own_dr hr3))
        go_cut [7, 8] (fun s7 s8 wx => ∃ a1 c1, s7 = .slice a1 1 c1 ∧ s8 = .int .i64 0 ∧ wx.ownsRow w3.heap.size 38 3 (.slice a1 1 c1) 1 stat8.toList ∧ Below w3.heap.size w3 wx)
        case first =>
          go_region_with (go_at_call 55; (with_reducible refine hDe.mono ?_); rintro e w4 ⟨⟨a1, c1, rfl, hr4⟩, hb4⟩)
          all_goals (go_wp2; go_meet)
          all_goals exact ⟨a1, c1, rfl, rfl, hr4, (Below.refl _ _).drew.trans hb4⟩
        case rest =>
          obtain ⟨a1, c1, rfl, rfl, hr4, hb4⟩ := hcut
          obtain ⟨w4, rfl⟩ : ∃ w4, w4 = wc := ⟨_, rfl⟩
          clear hDe x5 x5' x16 x16' hr3
          have hP4 := hP3.on hb4
          have hS4 := hS3.on hb4
          have hD4 := hD3.on hb4
          have ht3l : t < w3.heap.size := Nat.lt_of_lt_of_le htl (Nat.le_trans hW1 hb3.size)
          have ht4 : w4.cell? ⟨t, 2, none⟩ = some (.slice none 0 0) := by
            rw [← ht3]
            simp only [World.cell?, hb4.block t ht3l]
          have x7 : w4.cell? ⟨p, 7, none⟩ = some (.int .i64 4096) := hP4.cell 7
          have x7' : w4.drew.cell? ⟨p, 7, none⟩ = some (.int .i64 4096) := hP4.cell 7
          have hRo := rows_none (p := p) (d := d) (t := t) w4 (hP4.cell 5) (hD4.cell 2) ht4
          have hRo' := rows_none (p := p) (d := d) (t := t) w4.drew (hP4.cell 5) (hD4.cell 2) ht4
          go_upto_region 12 with fail
          go_cut [85] (fun sx wx => sx = .bool false ∧ w4.drew = wx)
          case first =>
            go_region_with (first
              | (go_at_call 56; (with_reducible refine hRo'.mono ?_); rintro e w5 ⟨rfl, rfl⟩)
              | (go_at_call 56; (with_reducible refine hRo.mono ?_); rintro e w5 ⟨rfl, rfl⟩))
            all_goals (go_wp2; go_meet; exact ⟨rfl, rfl⟩)
          case rest =>
            obtain ⟨rfl, rfl⟩ := hcut
            have hSa := says_stat (ends := false) w4.drew hP4.drew rfl rfl hS4.drew hsp (Nat.lt_of_lt_of_le hpW hb3.size) hS3.lt (own_dr hr4)
            go_upto_region 14 with fail
            go_wp2_with (go_at_call 57; (with_reducible refine hSa.mono ?_); rintro e w6 ⟨rfl, ⟨a', c', hP6, hr6⟩, hS6, hb6⟩)
            go_ret
            have hb03 : But (fun k => k = p ∨ k = s) w w3 := (But.of_below hbW).trans (hb3.more fun k hk => .inl hk)
            exact ⟨rfl, ⟨a', c', a2, 1, c2, hP6, own_base hr6 (Nat.le_trans hb03.size hb4.size)⟩, hS6, ((hb03.trans (But.of_below hb4)).drew).trans hb6⟩
end Go.Proofs.YtmbakobindjjmaaGreatDoor
