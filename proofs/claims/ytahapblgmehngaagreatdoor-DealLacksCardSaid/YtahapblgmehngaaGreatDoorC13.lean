/- Parts of the proof of DealLacks_holds: the texts Ctl4. -/
import Derived.Test.YtahapblgmehngaaGreatDoorC10
import Derived.Test.YtahapblgmehngaaGreatDoorC12
set_option linter.unusedSimpArgs false
set_option linter.unusedVariables false
set_option linter.unnecessarySimpa false
namespace Go.Proofs.YtahapblgmehngaaGreatDoor
open Go.RowKit Go.Dr

theorem unq_length (out l : Bytes) : (unq out l).1.length ≤ out.length + l.length := by
  fun_induction unq out l <;> simp_all <;> omega
theorem directive_arg (l : Bytes) : (directive l).2.1.length ≤ l.length := by
  have h := eqArg_length l
  have h2 := unq_length [] ((eqArg l).drop 1)
  simp only [List.length_nil, List.length_drop] at h2
  unfold directive unquote
  split
  · split
    · split
      · show (unq [] ((eqArg l).drop 1)).1.length ≤ _
        omega
      · simp
    · exact h
  · simp
theorem set_eq {w : World} {b : Nat} {t : TypeId} {xs ys : Array Value} (h : Blk w b t xs) {k : Nat} {v : Value} (he : xs.setIfInBounds k v = ys) : Blk (w.setCell ⟨b, k, none⟩ v) b t ys := by
  rw [← he]; exact h.set k v
theorem says0 (c : Ctl) (hok : c.ok) {n : Bytes} (a : Bytes) (h : (n == noStore) = true) : c.cells.setIfInBounds 0 (.bool true) = (c.join (ctlSays n a)).cells := by
  obtain rfl : n = noStore := by simpa using h
  obtain ⟨⟨h1, -⟩, ⟨h2, -⟩, ⟨h3, -⟩, h4, -⟩ := hok
  rw [show ctlSays noStore a = { Ctl.none with ns := true } from rfl]
  simp [Ctl.cells, Ctl.join, Ctl.none, least_none' _ h1, least_none' _ h2, most_none _ h3, least_none' _ h4]
theorem says1 (c : Ctl) (hok : c.ok) {n : Bytes} (a : Bytes) (h : (n == noCache) = true) : c.cells.setIfInBounds 1 (.bool true) = (c.join (ctlSays n a)).cells := by
  obtain rfl : n = noCache := by simpa using h
  obtain ⟨⟨h1, -⟩, ⟨h2, -⟩, ⟨h3, -⟩, h4, -⟩ := hok
  rw [show ctlSays noCache a = { Ctl.none with nc := true } from rfl]
  simp [Ctl.cells, Ctl.join, Ctl.none, least_none' _ h1, least_none' _ h2, most_none _ h3, least_none' _ h4]
theorem says2 (c : Ctl) (hok : c.ok) {n : Bytes} (a : Bytes) (h : (n == noTransform) = true) : c.cells.setIfInBounds 2 (.bool true) = (c.join (ctlSays n a)).cells := by
  obtain rfl : n = noTransform := by simpa using h
  obtain ⟨⟨h1, -⟩, ⟨h2, -⟩, ⟨h3, -⟩, h4, -⟩ := hok
  rw [show ctlSays noTransform a = { Ctl.none with nt := true } from rfl]
  simp [Ctl.cells, Ctl.join, Ctl.none, least_none' _ h1, least_none' _ h2, most_none _ h3, least_none' _ h4]
theorem says3 (c : Ctl) (hok : c.ok) {n : Bytes} (a : Bytes) (h : (n == pubName) = true) : c.cells.setIfInBounds 3 (.bool true) = (c.join (ctlSays n a)).cells := by
  obtain rfl : n = pubName := by simpa using h
  obtain ⟨⟨h1, -⟩, ⟨h2, -⟩, ⟨h3, -⟩, h4, -⟩ := hok
  rw [show ctlSays pubName a = { Ctl.none with pu := true } from rfl]
  simp [Ctl.cells, Ctl.join, Ctl.none, least_none' _ h1, least_none' _ h2, most_none _ h3, least_none' _ h4]
theorem says4 (c : Ctl) (hok : c.ok) {n : Bytes} (a : Bytes) (h : (n == privName) = true) : c.cells.setIfInBounds 4 (.bool true) = (c.join (ctlSays n a)).cells := by
  obtain rfl : n = privName := by simpa using h
  obtain ⟨⟨h1, -⟩, ⟨h2, -⟩, ⟨h3, -⟩, h4, -⟩ := hok
  rw [show ctlSays privName a = { Ctl.none with pr := true } from rfl]
  simp [Ctl.cells, Ctl.join, Ctl.none, least_none' _ h1, least_none' _ h2, most_none _ h3, least_none' _ h4]
theorem says5 (c : Ctl) (hok : c.ok) {n : Bytes} (a : Bytes) (h : (n == mustRe) = true) : c.cells.setIfInBounds 5 (.bool true) = (c.join (ctlSays n a)).cells := by
  obtain rfl : n = mustRe := by simpa using h
  obtain ⟨⟨h1, -⟩, ⟨h2, -⟩, ⟨h3, -⟩, h4, -⟩ := hok
  rw [show ctlSays mustRe a = { Ctl.none with mr := true } from rfl]
  simp [Ctl.cells, Ctl.join, Ctl.none, least_none' _ h1, least_none' _ h2, most_none _ h3, least_none' _ h4]
theorem says6 (c : Ctl) (hok : c.ok) {n : Bytes} (a : Bytes) (h : (n == proxyRe) = true) : c.cells.setIfInBounds 6 (.bool true) = (c.join (ctlSays n a)).cells := by
  obtain rfl : n = proxyRe := by simpa using h
  obtain ⟨⟨h1, -⟩, ⟨h2, -⟩, ⟨h3, -⟩, h4, -⟩ := hok
  rw [show ctlSays proxyRe a = { Ctl.none with px := true } from rfl]
  simp [Ctl.cells, Ctl.join, Ctl.none, least_none' _ h1, least_none' _ h2, most_none _ h3, least_none' _ h4]
theorem says7 (c : Ctl) (hok : c.ok) {n : Bytes} (a : Bytes) (h : (n == onlyIf) = true) : c.cells.setIfInBounds 7 (.bool true) = (c.join (ctlSays n a)).cells := by
  obtain rfl : n = onlyIf := by simpa using h
  obtain ⟨⟨h1, -⟩, ⟨h2, -⟩, ⟨h3, -⟩, h4, -⟩ := hok
  rw [show ctlSays onlyIf a = { Ctl.none with oi := true } from rfl]
  simp [Ctl.cells, Ctl.join, Ctl.none, least_none' _ h1, least_none' _ h2, most_none _ h3, least_none' _ h4]
theorem says8 (c : Ctl) (hok : c.ok) {n : Bytes} (a : Bytes) (h : (n == maxAge) = true) : c.cells.setIfInBounds 8 (.int .i64 (least c.ma (numArg a : Nat))) = (c.join (ctlSays n a)).cells := by
  obtain rfl : n = maxAge := by simpa using h
  obtain ⟨⟨h1, -⟩, ⟨h2, -⟩, ⟨h3, -⟩, h4, -⟩ := hok
  rw [show ctlSays maxAge a = { Ctl.none with ma := numArg a } from rfl]
  simp [Ctl.cells, Ctl.join, Ctl.none, least_none' _ h1, least_none' _ h2, most_none _ h3, least_none' _ h4]
theorem says9 (c : Ctl) (hok : c.ok) {n : Bytes} (a : Bytes) (h : (n == sMaxage) = true) : c.cells.setIfInBounds 9 (.int .i64 (least c.sm (numArg a : Nat))) = (c.join (ctlSays n a)).cells := by
  obtain rfl : n = sMaxage := by simpa using h
  obtain ⟨⟨h1, -⟩, ⟨h2, -⟩, ⟨h3, -⟩, h4, -⟩ := hok
  rw [show ctlSays sMaxage a = { Ctl.none with sm := numArg a } from rfl]
  simp [Ctl.cells, Ctl.join, Ctl.none, least_none' _ h1, least_none' _ h2, most_none _ h3, least_none' _ h4]
theorem says10 (c : Ctl) (hok : c.ok) {n : Bytes} (a : Bytes) (h : (n == minFresh) = true) : c.cells.setIfInBounds 10 (.int .i64 (most c.mf (numArg a : Nat))) = (c.join (ctlSays n a)).cells := by
  obtain rfl : n = minFresh := by simpa using h
  obtain ⟨⟨h1, -⟩, ⟨h2, -⟩, ⟨h3, -⟩, h4, -⟩ := hok
  rw [show ctlSays minFresh a = { Ctl.none with mf := numArg a } from rfl]
  simp [Ctl.cells, Ctl.join, Ctl.none, least_none' _ h1, least_none' _ h2, most_none _ h3, least_none' _ h4]
theorem says11 (c : Ctl) (hok : c.ok) {n : Bytes} (a : Bytes) (h : (n == maxStale) = true) (x : Int) (hx : x = if a = [] then (greatest : Int) else (numArg a : Int)) : c.cells.setIfInBounds 11 (.int .i64 (least c.ms x)) = (c.join (ctlSays n a)).cells := by
  obtain rfl : n = maxStale := by simpa using h
  obtain ⟨⟨h1, -⟩, ⟨h2, -⟩, ⟨h3, -⟩, h4, -⟩ := hok
  rw [show ctlSays maxStale a = { Ctl.none with ms := if a = [] then (greatest : Int) else (numArg a : Int) } from rfl, ← hx]
  simp [Ctl.cells, Ctl.join, Ctl.none, least_none' _ h1, least_none' _ h2, most_none _ h3, least_none' _ h4]
theorem says12 (c : Ctl) (hok : c.ok) {n : Bytes} (a : Bytes) (h0 : (n == noStore) = false) (h1 : (n == noCache) = false) (h2 : (n == noTransform) = false) (h3 : (n == pubName) = false) (h4 : (n == privName) = false) (h5 : (n == mustRe) = false) (h6 : (n == proxyRe) = false) (h7 : (n == onlyIf) = false) (h8 : (n == maxAge) = false) (h9 : (n == sMaxage) = false) (h10 : (n == minFresh) = false) (h11 : (n == maxStale) = false) : c = c.join (ctlSays n a) := by
  have e : ctlSays n a = Ctl.none := by
    unfold ctlSays
    rw [if_neg (by simpa using h0), if_neg (by simpa using h1), if_neg (by simpa using h2), if_neg (by simpa using h3), if_neg (by simpa using h4), if_neg (by simpa using h5), if_neg (by simpa using h6), if_neg (by simpa using h7), if_neg (by simpa using h8), if_neg (by simpa using h9), if_neg (by simpa using h10), if_neg (by simpa using h11)]
  rw [e, join_none c hok]

theorem cells_all (c d : Ctl) : ((((((((((((c.cells.setIfInBounds 0 (.bool d.ns)).setIfInBounds 1 (.bool d.nc)).setIfInBounds 2 (.bool d.nt)).setIfInBounds 3 (.bool d.pu)).setIfInBounds 4 (.bool d.pr)).setIfInBounds 5 (.bool d.mr)).setIfInBounds 6 (.bool d.px)).setIfInBounds 7 (.bool d.oi)).setIfInBounds 8 (.int .i64 d.ma)).setIfInBounds 9 (.int .i64 d.sm)).setIfInBounds 10 (.int .i64 d.mf)).setIfInBounds 11 (.int .i64 d.ms)) = d.cells := by simp [Ctl.cells]
theorem ret_ctl {W : World} {tmps : Array Value} {b : Nat} {c : Ctl} {R : Ending → World → Prop} (hs : tmps[2]? = some (.pointer (some ⟨b, 0, none⟩))) (h : Blk W b 80 c.cells) (hR : R (.returned c.val) W) :
    bodyPost Tryz.prog Tryz.f84 R .ret { tmps := tmps, defers := [] } W := by
  have g0 : W.cell? ⟨b, 0, none⟩ = some (.bool c.ns) := h.cell 0
  have g1 : W.cell? ⟨b, 1, none⟩ = some (.bool c.nc) := h.cell 1
  have g2 : W.cell? ⟨b, 2, none⟩ = some (.bool c.nt) := h.cell 2
  have g3 : W.cell? ⟨b, 3, none⟩ = some (.bool c.pu) := h.cell 3
  have g4 : W.cell? ⟨b, 4, none⟩ = some (.bool c.pr) := h.cell 4
  have g5 : W.cell? ⟨b, 5, none⟩ = some (.bool c.mr) := h.cell 5
  have g6 : W.cell? ⟨b, 6, none⟩ = some (.bool c.px) := h.cell 6
  have g7 : W.cell? ⟨b, 7, none⟩ = some (.bool c.oi) := h.cell 7
  have g8 : W.cell? ⟨b, 8, none⟩ = some (.int .i64 c.ma) := h.cell 8
  have g9 : W.cell? ⟨b, 9, none⟩ = some (.int .i64 c.sm) := h.cell 9
  have g10 : W.cell? ⟨b, 10, none⟩ = some (.int .i64 c.mf) := h.cell 10
  have g11 : W.cell? ⟨b, 11, none⟩ = some (.int .i64 c.ms) := h.cell 11
  exact bodyPost_ret (v := c.val) (by simp [results, Tryz.results84, go_sem, hs, g0, g1, g2, g3, g4, g5, g6, g7, g8, g9, g10, g11]) rfl hR

set_option maxRecDepth 100000 in
set_option maxHeartbeats 8000000 in
theorem Read_any (l : List F) (v : Value) (w : World) (h : Fs w.heap.size w v l) (hl : fsum l ≤ 1099511627776) :
    Calls Tryz.prog 84 #[v] w fun e w' => e = .returned (readC l).val ∧ Below w.heap.size w w' := by
  have hsum := ssum_all l cacheControl
  go_enter Tryz.func84, Tryz.ntmps84
  go_wp2_with fail
  have hC0 := Blk.new (w.alloc (.cells Ctl.zero.cells 80)) 80 Ctl.none.cells
  have hb0 : Below w.heap.size w ((w.alloc (.cells Ctl.zero.cells 80)).alloc (.cells Ctl.none.cells 80)) := ((Below.refl _ _).alloc (Nat.le_refl _) _).alloc (by simp) _
  have hZ0 := (Blk.new w 80 Ctl.zero.cells).alloc (.cells Ctl.none.cells 80)
  refine (All_any l cacheControl v _ ((h.below hb0).mono hb0.size) hl (by decide)).mono ?_
  rintro e w1 ⟨vv, rfl, hvv, hb1⟩
  have hu : Hid (readC l = ctlAll (allOf l cacheControl)) := rfl
  generalize allOf l cacheControl = vs at *
  have hC1 := hC0.below hb1 hC0.lt
  have hZ1 := hZ0.below hb1 hZ0.lt
  have hw1 := Bl.tr hb0 hb1
  clear hC0 hZ0 hb0 hb1
  obtain ⟨pa, ca, rfl, hm⟩ := (Ss.own hvv).form
  simp only [World.alloc, Array.size_push] at hC1 hvv
  go_wp2
  go_loopw [16] (fun i wr => ∃ k : Nat, i = .int .i64 k ∧ k ≤ vs.length ∧ Blk wr (w.heap.size + 1) 80 (ctlAll (vs.take k)).cells ∧ Blk wr w.heap.size 80 Ctl.zero.cells ∧ wr.ownsRow (w.heap.size + 2) 9 1 (.slice pa vs.length ca) vs.length (vs.map S) ∧ Below w.heap.size w wr) (fun i _ => vs.length - (intOf i).toNat)
  case atStart => exact ⟨0, rfl, Nat.zero_le _, hC1, hZ1, hvv, hw1⟩
  case round =>
    obtain ⟨k, rfl, hk, hC, hZ, hown, hbel⟩ := hrel
    by_cases hlt : k < vs.length
    · obtain ⟨b, off, rfl, hbb, c0⟩ := (Ss.own hown).at k hlt
      have hf := ssum_mem (List.getElem_mem hlt)
      have HS := Lib.hid (ctlAll_snoc vs k hlt)
      have hok := Lib.hid (ctlAll_ok (vs.take k))
      go_wp2_with fail
      refine (Directive_any vs[k] _ (by omega)).mono ?_
      rintro e w2 ⟨rfl, hb2⟩
      have hC2 := hC.below hb2 hC.lt
      have hZ2 := hZ.below hb2 hZ.lt
      have hown2 := own_below hown hb2
      have hw2 := hbel.trans (hb2.mono hbel.size)
      clear hC hZ hown hb2 hbel
      have f2 := hC2.free
      generalize ctlAll (vs.take k) = c at *
      have hD := ctlOf.eq_1 vs[k]
      by_cases hd : (directive vs[k]).2.2 = true
      · rw [if_pos hd] at hD
        rw [hd]
        (generalize hgenn : (directive vs[k]).1 = n at *; have Hn := Lib.hid hgenn; clear hgenn)
        (generalize hgena : (directive vs[k]).2.1 = a at *; have Ha := Lib.hid hgena; clear hgena)
        have HD := Lib.hid hD
        clear hD hd
        have g0 : w2.cell? ⟨w.heap.size + 1, 0, none⟩ = some (.bool c.ns) := hC2.cell 0
        have g1 : w2.cell? ⟨w.heap.size + 1, 1, none⟩ = some (.bool c.nc) := hC2.cell 1
        have g2 : w2.cell? ⟨w.heap.size + 1, 2, none⟩ = some (.bool c.nt) := hC2.cell 2
        have g3 : w2.cell? ⟨w.heap.size + 1, 3, none⟩ = some (.bool c.pu) := hC2.cell 3
        have g4 : w2.cell? ⟨w.heap.size + 1, 4, none⟩ = some (.bool c.pr) := hC2.cell 4
        have g5 : w2.cell? ⟨w.heap.size + 1, 5, none⟩ = some (.bool c.mr) := hC2.cell 5
        have g6 : w2.cell? ⟨w.heap.size + 1, 6, none⟩ = some (.bool c.px) := hC2.cell 6
        have g7 : w2.cell? ⟨w.heap.size + 1, 7, none⟩ = some (.bool c.oi) := hC2.cell 7
        have g8 : w2.cell? ⟨w.heap.size + 1, 8, none⟩ = some (.int .i64 c.ma) := hC2.cell 8
        have g9 : w2.cell? ⟨w.heap.size + 1, 9, none⟩ = some (.int .i64 c.sm) := hC2.cell 9
        have g10 : w2.cell? ⟨w.heap.size + 1, 10, none⟩ = some (.int .i64 c.mf) := hC2.cell 10
        have g11 : w2.cell? ⟨w.heap.size + 1, 11, none⟩ = some (.int .i64 c.ms) := hC2.cell 11
        have ol8 : -1 ≤ c.ma := hok.out.1.1
        have ou8 : c.ma ≤ 1099511627776 := hok.out.1.2
        have ol9 : -1 ≤ c.sm := hok.out.2.1.1
        have ou9 : c.sm ≤ 1099511627776 := hok.out.2.1.2
        have ol10 : -1 ≤ c.mf := hok.out.2.2.1.1
        have ou10 : c.mf ≤ 1099511627776 := hok.out.2.2.1.2
        have ol11 : -1 ≤ c.ms := hok.out.2.2.2.1
        have ou11 : c.ms ≤ 1099511627776 := hok.out.2.2.2.2
        have hna := numArg_le a
        have hal := directive_arg vs[k]
        rw [Ha.out] at hal
        go_wp2_with (first | (go_at_call 121; refine (numArg_any a _ (by unfold maxLen; omega)).mono ?_; rintro e w' ⟨rfl, rfl⟩) | (go_at_call 118; first | ((with_reducible refine (countLeast_any c.ma _ (w.heap.size + 1) 8 _ ol8 ou8 (by omega) (by omega) g8 (f2 8)).mono ?_); rintro e w' ⟨rfl, rfl⟩) | ((with_reducible refine (countLeast_any c.sm _ (w.heap.size + 1) 9 _ ol9 ou9 (by omega) (by omega) g9 (f2 9)).mono ?_); rintro e w' ⟨rfl, rfl⟩) | ((with_reducible refine (countMost_any c.mf _ (w.heap.size + 1) 10 _ ol10 ou10 (by omega) (by omega) g10 (f2 10)).mono ?_); rintro e w' ⟨rfl, rfl⟩) | ((with_reducible refine (countLeast_any c.ms _ (w.heap.size + 1) 11 _ ol11 ou11 (by omega) (by omega) g11 (f2 11)).mono ?_); rintro e w' ⟨rfl, rfl⟩)))
        case' roundEnd => skip
        all_goals
          first
            | (refine ⟨⟨k + 1, by go_num, by omega, ?_, hZ2.other (by simp) _, ownsRow_setCell_below hown2 (by simp) _, hw2.setCell (by simp) _⟩, by simp [intOf]; omega⟩
               rw [HS.out, HD.out]
               first
              | ((with_reducible refine set_eq hC2 (k := 0) (says0 c hok.out a ?_)); assumption)
              | ((with_reducible refine set_eq hC2 (k := 1) (says1 c hok.out a ?_)); assumption)
              | ((with_reducible refine set_eq hC2 (k := 2) (says2 c hok.out a ?_)); assumption)
              | ((with_reducible refine set_eq hC2 (k := 3) (says3 c hok.out a ?_)); assumption)
              | ((with_reducible refine set_eq hC2 (k := 4) (says4 c hok.out a ?_)); assumption)
              | ((with_reducible refine set_eq hC2 (k := 5) (says5 c hok.out a ?_)); assumption)
              | ((with_reducible refine set_eq hC2 (k := 6) (says6 c hok.out a ?_)); assumption)
              | ((with_reducible refine set_eq hC2 (k := 7) (says7 c hok.out a ?_)); assumption)
              | ((with_reducible refine set_eq hC2 (k := 8) (says8 c hok.out a ?_)); assumption)
              | ((with_reducible refine set_eq hC2 (k := 9) (says9 c hok.out a ?_)); assumption)
              | ((with_reducible refine set_eq hC2 (k := 10) (says10 c hok.out a ?_)); assumption)
              | ((with_reducible refine set_eq hC2 (k := 11) (says11 c hok.out a ?_ _ ?_))
                 · assumption
                 · first
                   | (have q : a.isEmpty = true := by assumption
                      rw [if_pos (by simpa using q)]; rfl)
                   | (have q : a.isEmpty = false := by assumption
                      rw [if_neg (by simpa using q)])))
            | (refine ⟨⟨k + 1, by go_num, by omega, ?_, hZ2, hown2, hw2⟩, by simp [intOf]; omega⟩
               rw [HS.out, HD.out, ← says12 c hok.out a]
               · exact hC2
               all_goals assumption)
      · rw [if_neg hd] at hD
        have hd' : (directive vs[k]).2.2 = false := by simpa using hd
        rw [hd']
        (generalize hgenn : (directive vs[k]).1 = n at *; have Hn := Lib.hid hgenn; clear hgenn)
        (generalize hgena : (directive vs[k]).2.1 = a at *; have Ha := Lib.hid hgena; clear hgena)
        have HD := Lib.hid hD
        clear hD hd hd'
        go_wp2
        go_roundw
        case rel => exact ⟨k + 1, by go_num, by omega, by rw [HS.out, HD.out, join_none c hok.out]; exact hC2, hZ2, hown2, hw2⟩
        case measure => simp [intOf]; omega
    · have hk' : k = vs.length := by omega
      subst hk'
      rw [List.take_length, ← hu.out] at hC
      (generalize hgenc : readC l = c at *; have Hc := Lib.hid hgenc; clear hgenc)
      have g0 : wr.cell? ⟨w.heap.size + 1, 0, none⟩ = some (.bool c.ns) := hC.cell 0
      have g1 : wr.cell? ⟨w.heap.size + 1, 1, none⟩ = some (.bool c.nc) := hC.cell 1
      have g2 : wr.cell? ⟨w.heap.size + 1, 2, none⟩ = some (.bool c.nt) := hC.cell 2
      have g3 : wr.cell? ⟨w.heap.size + 1, 3, none⟩ = some (.bool c.pu) := hC.cell 3
      have g4 : wr.cell? ⟨w.heap.size + 1, 4, none⟩ = some (.bool c.pr) := hC.cell 4
      have g5 : wr.cell? ⟨w.heap.size + 1, 5, none⟩ = some (.bool c.mr) := hC.cell 5
      have g6 : wr.cell? ⟨w.heap.size + 1, 6, none⟩ = some (.bool c.px) := hC.cell 6
      have g7 : wr.cell? ⟨w.heap.size + 1, 7, none⟩ = some (.bool c.oi) := hC.cell 7
      have g8 : wr.cell? ⟨w.heap.size + 1, 8, none⟩ = some (.int .i64 c.ma) := hC.cell 8
      have g9 : wr.cell? ⟨w.heap.size + 1, 9, none⟩ = some (.int .i64 c.sm) := hC.cell 9
      have g10 : wr.cell? ⟨w.heap.size + 1, 10, none⟩ = some (.int .i64 c.mf) := hC.cell 10
      have g11 : wr.cell? ⟨w.heap.size + 1, 11, none⟩ = some (.int .i64 c.ms) := hC.cell 11
      have z0 : wr.cell? ⟨w.heap.size, 0, none⟩ = some (.bool false) := hZ.cell 0
      have z1 : wr.cell? ⟨w.heap.size, 1, none⟩ = some (.bool false) := hZ.cell 1
      have z2 : wr.cell? ⟨w.heap.size, 2, none⟩ = some (.bool false) := hZ.cell 2
      have z3 : wr.cell? ⟨w.heap.size, 3, none⟩ = some (.bool false) := hZ.cell 3
      have z4 : wr.cell? ⟨w.heap.size, 4, none⟩ = some (.bool false) := hZ.cell 4
      have z5 : wr.cell? ⟨w.heap.size, 5, none⟩ = some (.bool false) := hZ.cell 5
      have z6 : wr.cell? ⟨w.heap.size, 6, none⟩ = some (.bool false) := hZ.cell 6
      have z7 : wr.cell? ⟨w.heap.size, 7, none⟩ = some (.bool false) := hZ.cell 7
      have z8 : wr.cell? ⟨w.heap.size, 8, none⟩ = some (.int .i64 0) := hZ.cell 8
      have z9 : wr.cell? ⟨w.heap.size, 9, none⟩ = some (.int .i64 0) := hZ.cell 9
      have z10 : wr.cell? ⟨w.heap.size, 10, none⟩ = some (.int .i64 0) := hZ.cell 10
      have z11 : wr.cell? ⟨w.heap.size, 11, none⟩ = some (.int .i64 0) := hZ.cell 11
      have f0 := hZ.free
      go_wp2
      have hR := ((((((((((((hZ.set 0 (.bool c.ns)).set 1 (.bool c.nc)).set 2 (.bool c.nt)).set 3 (.bool c.pu)).set 4 (.bool c.pr)).set 5 (.bool c.mr)).set 6 (.bool c.px)).set 7 (.bool c.oi)).set 8 (.int .i64 c.ma)).set 9 (.int .i64 c.sm)).set 10 (.int .i64 c.mf)).set 11 (.int .i64 c.ms))
      rw [cells_all] at hR
      exact ret_ctl rfl hR ⟨by rw [Hc.out], ((((((((((((hbel.setCell (Nat.le_refl _) _).setCell (Nat.le_refl _) _).setCell (Nat.le_refl _) _).setCell (Nat.le_refl _) _).setCell (Nat.le_refl _) _).setCell (Nat.le_refl _) _).setCell (Nat.le_refl _) _).setCell (Nat.le_refl _) _).setCell (Nat.le_refl _) _).setCell (Nat.le_refl _) _).setCell (Nat.le_refl _) _).setCell (Nat.le_refl _) _)⟩
end Go.Proofs.YtahapblgmehngaaGreatDoor

