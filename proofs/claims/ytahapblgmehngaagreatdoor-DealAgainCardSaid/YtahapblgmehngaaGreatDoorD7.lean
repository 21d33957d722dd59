/- Parts of the proof of DealAgain_holds: the texts Ctl4 Frs1. -/
import Derived.Test.YtahapblgmehngaaGreatDoorD5
import Derived.Test.YtahapblgmehngaaGreatDoorD6
set_option linter.unusedSimpArgs false
set_option linter.unusedVariables false
set_option linter.unnecessarySimpa false
set_option maxRecDepth 100000
set_option maxHeartbeats 64000000
namespace Go.Proofs.YtahapblgmehngaaGreatDoor
open Go.RowKit Go.Dr
theorem unq_length (out l : Bytes) : (unq out l).1.length ≤ out.length + l.length := by
  fun_induction unq out l <;> simp_all <;> omega
theorem directive_arg (l : Bytes) : (directive l).2.1.length ≤ l.length := by
  have h := eqArg_length l; have h2 := unq_length [] ((eqArg l).drop 1); simp only [List.length_nil, List.length_drop] at h2; unfold directive unquote
  split
  · split
    · split
      · show (unq [] ((eqArg l).drop 1)).1.length ≤ _
        omega
      · simp
    · exact h
  · simp
theorem set_eq {w : World} {b : Nat} {t : TypeId} {xs ys : Array Value} (h : Blk w b t xs) {k : Nat} {v : Value} (he : xs.setIfInBounds k v = ys) : Blk (w.setCell ⟨b, k, none⟩ v) b t ys := by
  rw [← he]; exact h.set k v
theorem says0 (c : Ctl) (hok : c.ok) {n : Bytes} (a : Bytes) (h : (n == noStore) = true) : c.cells.setIfInBounds 0 (.bool true) = (c.join (ctlSays n a)).cells := by
  obtain rfl : n = noStore := by simpa using h
  obtain ⟨⟨h1, -⟩, ⟨h2, -⟩, ⟨h3, -⟩, h4, -⟩ := hok; rw [show ctlSays noStore a = { Ctl.none with ns := true } from rfl]; simp [Ctl.cells, Ctl.join, Ctl.none, least_none' _ h1, least_none' _ h2, most_none _ h3, least_none' _ h4]
theorem says1 (c : Ctl) (hok : c.ok) {n : Bytes} (a : Bytes) (h : (n == noCache) = true) : c.cells.setIfInBounds 1 (.bool true) = (c.join (ctlSays n a)).cells := by
  obtain rfl : n = noCache := by simpa using h
  obtain ⟨⟨h1, -⟩, ⟨h2, -⟩, ⟨h3, -⟩, h4, -⟩ := hok; rw [show ctlSays noCache a = { Ctl.none with nc := true } from rfl]; simp [Ctl.cells, Ctl.join, Ctl.none, least_none' _ h1, least_none' _ h2, most_none _ h3, least_none' _ h4]
theorem says2 (c : Ctl) (hok : c.ok) {n : Bytes} (a : Bytes) (h : (n == noTransform) = true) : c.cells.setIfInBounds 2 (.bool true) = (c.join (ctlSays n a)).cells := by
  obtain rfl : n = noTransform := by simpa using h
  obtain ⟨⟨h1, -⟩, ⟨h2, -⟩, ⟨h3, -⟩, h4, -⟩ := hok; rw [show ctlSays noTransform a = { Ctl.none with nt := true } from rfl]; simp [Ctl.cells, Ctl.join, Ctl.none, least_none' _ h1, least_none' _ h2, most_none _ h3, least_none' _ h4]
theorem says3 (c : Ctl) (hok : c.ok) {n : Bytes} (a : Bytes) (h : (n == pubName) = true) : c.cells.setIfInBounds 3 (.bool true) = (c.join (ctlSays n a)).cells := by
  obtain rfl : n = pubName := by simpa using h
  obtain ⟨⟨h1, -⟩, ⟨h2, -⟩, ⟨h3, -⟩, h4, -⟩ := hok; rw [show ctlSays pubName a = { Ctl.none with pu := true } from rfl]; simp [Ctl.cells, Ctl.join, Ctl.none, least_none' _ h1, least_none' _ h2, most_none _ h3, least_none' _ h4]
theorem says4 (c : Ctl) (hok : c.ok) {n : Bytes} (a : Bytes) (h : (n == privName) = true) : c.cells.setIfInBounds 4 (.bool true) = (c.join (ctlSays n a)).cells := by
  obtain rfl : n = privName := by simpa using h
  obtain ⟨⟨h1, -⟩, ⟨h2, -⟩, ⟨h3, -⟩, h4, -⟩ := hok; rw [show ctlSays privName a = { Ctl.none with pr := true } from rfl]; simp [Ctl.cells, Ctl.join, Ctl.none, least_none' _ h1, least_none' _ h2, most_none _ h3, least_none' _ h4]
theorem says5 (c : Ctl) (hok : c.ok) {n : Bytes} (a : Bytes) (h : (n == mustRe) = true) : c.cells.setIfInBounds 5 (.bool true) = (c.join (ctlSays n a)).cells := by
  obtain rfl : n = mustRe := by simpa using h
  obtain ⟨⟨h1, -⟩, ⟨h2, -⟩, ⟨h3, -⟩, h4, -⟩ := hok; rw [show ctlSays mustRe a = { Ctl.none with mr := true } from rfl]; simp [Ctl.cells, Ctl.join, Ctl.none, least_none' _ h1, least_none' _ h2, most_none _ h3, least_none' _ h4]
theorem says6 (c : Ctl) (hok : c.ok) {n : Bytes} (a : Bytes) (h : (n == proxyRe) = true) : c.cells.setIfInBounds 6 (.bool true) = (c.join (ctlSays n a)).cells := by
  obtain rfl : n = proxyRe := by simpa using h
  obtain ⟨⟨h1, -⟩, ⟨h2, -⟩, ⟨h3, -⟩, h4, -⟩ := hok; rw [show ctlSays proxyRe a = { Ctl.none with px := true } from rfl]; simp [Ctl.cells, Ctl.join, Ctl.none, least_none' _ h1, least_none' _ h2, most_none _ h3, least_none' _ h4]
theorem says7 (c : Ctl) (hok : c.ok) {n : Bytes} (a : Bytes) (h : (n == onlyIf) = true) : c.cells.setIfInBounds 7 (.bool true) = (c.join (ctlSays n a)).cells := by
  obtain rfl : n = onlyIf := by simpa using h
  obtain ⟨⟨h1, -⟩, ⟨h2, -⟩, ⟨h3, -⟩, h4, -⟩ := hok; rw [show ctlSays onlyIf a = { Ctl.none with oi := true } from rfl]; simp [Ctl.cells, Ctl.join, Ctl.none, least_none' _ h1, least_none' _ h2, most_none _ h3, least_none' _ h4]
theorem says8 (c : Ctl) (hok : c.ok) {n : Bytes} (a : Bytes) (h : (n == maxAge) = true) : c.cells.setIfInBounds 8 (.int .i64 (least c.ma (numArg a : Nat))) = (c.join (ctlSays n a)).cells := by
  obtain rfl : n = maxAge := by simpa using h
  obtain ⟨⟨h1, -⟩, ⟨h2, -⟩, ⟨h3, -⟩, h4, -⟩ := hok; rw [show ctlSays maxAge a = { Ctl.none with ma := numArg a } from rfl]; simp [Ctl.cells, Ctl.join, Ctl.none, least_none' _ h1, least_none' _ h2, most_none _ h3, least_none' _ h4]
theorem says9 (c : Ctl) (hok : c.ok) {n : Bytes} (a : Bytes) (h : (n == sMaxage) = true) : c.cells.setIfInBounds 9 (.int .i64 (least c.sm (numArg a : Nat))) = (c.join (ctlSays n a)).cells := by
  obtain rfl : n = sMaxage := by simpa using h
  obtain ⟨⟨h1, -⟩, ⟨h2, -⟩, ⟨h3, -⟩, h4, -⟩ := hok; rw [show ctlSays sMaxage a = { Ctl.none with sm := numArg a } from rfl]; simp [Ctl.cells, Ctl.join, Ctl.none, least_none' _ h1, least_none' _ h2, most_none _ h3, least_none' _ h4]
theorem says10 (c : Ctl) (hok : c.ok) {n : Bytes} (a : Bytes) (h : (n == minFresh) = true) : c.cells.setIfInBounds 10 (.int .i64 (most c.mf (numArg a : Nat))) = (c.join (ctlSays n a)).cells := by
  obtain rfl : n = minFresh := by simpa using h
  obtain ⟨⟨h1, -⟩, ⟨h2, -⟩, ⟨h3, -⟩, h4, -⟩ := hok; rw [show ctlSays minFresh a = { Ctl.none with mf := numArg a } from rfl]; simp [Ctl.cells, Ctl.join, Ctl.none, least_none' _ h1, least_none' _ h2, most_none _ h3, least_none' _ h4]
theorem says11 (c : Ctl) (hok : c.ok) {n : Bytes} (a : Bytes) (h : (n == maxStale) = true) (x : Int) (hx : x = if a = [] then (greatest : Int) else (numArg a : Int)) : c.cells.setIfInBounds 11 (.int .i64 (least c.ms x)) = (c.join (ctlSays n a)).cells := by
  obtain rfl : n = maxStale := by simpa using h
  obtain ⟨⟨h1, -⟩, ⟨h2, -⟩, ⟨h3, -⟩, h4, -⟩ := hok; rw [show ctlSays maxStale a = { Ctl.none with ms := if a = [] then (greatest : Int) else (numArg a : Int) } from rfl, ← hx]; simp [Ctl.cells, Ctl.join, Ctl.none, least_none' _ h1, least_none' _ h2, most_none _ h3, least_none' _ h4]
theorem says12 (c : Ctl) (hok : c.ok) {n : Bytes} (a : Bytes) (h0 : (n == noStore) = false) (h1 : (n == noCache) = false) (h2 : (n == noTransform) = false) (h3 : (n == pubName) = false) (h4 : (n == privName) = false) (h5 : (n == mustRe) = false) (h6 : (n == proxyRe) = false) (h7 : (n == onlyIf) = false) (h8 : (n == maxAge) = false) (h9 : (n == sMaxage) = false) (h10 : (n == minFresh) = false) (h11 : (n == maxStale) = false) : c = c.join (ctlSays n a) := by
  have e : ctlSays n a = Ctl.none := by
    unfold ctlSays; rw [if_neg (by simpa using h0), if_neg (by simpa using h1), if_neg (by simpa using h2), if_neg (by simpa using h3), if_neg (by simpa using h4), if_neg (by simpa using h5), if_neg (by simpa using h6), if_neg (by simpa using h7), if_neg (by simpa using h8), if_neg (by simpa using h9), if_neg (by simpa using h10), if_neg (by simpa using h11)]
  rw [e, join_none c hok]
theorem cells_all (c d : Ctl) : ((((((((((((c.cells.setIfInBounds 0 (.bool d.ns)).setIfInBounds 1 (.bool d.nc)).setIfInBounds 2 (.bool d.nt)).setIfInBounds 3 (.bool d.pu)).setIfInBounds 4 (.bool d.pr)).setIfInBounds 5 (.bool d.mr)).setIfInBounds 6 (.bool d.px)).setIfInBounds 7 (.bool d.oi)).setIfInBounds 8 (.int .i64 d.ma)).setIfInBounds 9 (.int .i64 d.sm)).setIfInBounds 10 (.int .i64 d.mf)).setIfInBounds 11 (.int .i64 d.ms)) = d.cells := by simp [Ctl.cells]
theorem ret_ctl {W : World} {tmps : Array Value} {b : Nat} {c : Ctl} {R : Ending → World → Prop} (hs : tmps[2]? = some (.pointer (some ⟨b, 0, none⟩))) (h : Blk W b 80 c.cells) (hR : R (.returned c.val) W) :
    bodyPost Tryz.prog Tryz.f84 R .ret { tmps := tmps, defers := [] } W := by
  have g0 : W.cell? ⟨b, 0, none⟩ = some (.bool c.ns) := h.cell 0; have g1 : W.cell? ⟨b, 1, none⟩ = some (.bool c.nc) := h.cell 1; have g2 : W.cell? ⟨b, 2, none⟩ = some (.bool c.nt) := h.cell 2; have g3 : W.cell? ⟨b, 3, none⟩ = some (.bool c.pu) := h.cell 3; have g4 : W.cell? ⟨b, 4, none⟩ = some (.bool c.pr) := h.cell 4; have g5 : W.cell? ⟨b, 5, none⟩ = some (.bool c.mr) := h.cell 5; have g6 : W.cell? ⟨b, 6, none⟩ = some (.bool c.px) := h.cell 6; have g7 : W.cell? ⟨b, 7, none⟩ = some (.bool c.oi) := h.cell 7; have g8 : W.cell? ⟨b, 8, none⟩ = some (.int .i64 c.ma) := h.cell 8; have g9 : W.cell? ⟨b, 9, none⟩ = some (.int .i64 c.sm) := h.cell 9; have g10 : W.cell? ⟨b, 10, none⟩ = some (.int .i64 c.mf) := h.cell 10; have g11 : W.cell? ⟨b, 11, none⟩ = some (.int .i64 c.ms) := h.cell 11; exact bodyPost_ret (v := c.val) (by simp [results, Tryz.results84, go_sem, hs, g0, g1, g2, g3, g4, g5, g6, g7, g8, g9, g10, g11]) rfl hR
theorem Read_any (l : List F) (v : Value) (w : World) (h : Fs w.heap.size w v l) (hl : fsum l ≤ 1099511627776) :
    Calls Tryz.prog 84 #[v] w fun e w' => e = .returned (readC l).val ∧ Below w.heap.size w w' := by
  have hsum := ssum_all l cacheControl; go_enter Tryz.func84, Tryz.ntmps84
  go_wp2_with fail; have hC0 := Blk.new (w.alloc (.cells Ctl.zero.cells 80)) 80 Ctl.none.cells; have hb0 : Below w.heap.size w ((w.alloc (.cells Ctl.zero.cells 80)).alloc (.cells Ctl.none.cells 80)) := ((Below.refl _ _).alloc (Nat.le_refl _) _).alloc (by simp) _; have hZ0 := (Blk.new w 80 Ctl.zero.cells).alloc (.cells Ctl.none.cells 80); refine (All_any l cacheControl v _ ((h.below hb0).mono hb0.size) hl (by decide)).mono ?_; rintro e w1 ⟨vv, rfl, hvv, hb1⟩; have hu : Hid (readC l = ctlAll (allOf l cacheControl)) := rfl; generalize allOf l cacheControl = vs at *; have hC1 := hC0.below hb1 hC0.lt; have hZ1 := hZ0.below hb1 hZ0.lt; have hw1 := Bl.tr hb0 hb1; clear hC0 hZ0 hb0 hb1; obtain ⟨pa, ca, rfl, hm⟩ := (Ss.own hvv).form; simp only [World.alloc, Array.size_push] at hC1 hvv; go_wp2
  go_loopw [16] (fun i wr => ∃ k : Nat, i = .int .i64 k ∧ k ≤ vs.length ∧ Blk wr (w.heap.size + 1) 80 (ctlAll (vs.take k)).cells ∧ Blk wr w.heap.size 80 Ctl.zero.cells ∧ wr.ownsRow (w.heap.size + 2) 9 1 (.slice pa vs.length ca) vs.length (vs.map S) ∧ Below w.heap.size w wr) (fun i _ => vs.length - (intOf i).toNat)
  case atStart => exact ⟨0, rfl, Nat.zero_le _, hC1, hZ1, hvv, hw1⟩
  case round =>
    obtain ⟨k, rfl, hk, hC, hZ, hown, hbel⟩ := hrel; by_cases hlt : k < vs.length
    · obtain ⟨b, off, rfl, hbb, c0⟩ := (Ss.own hown).at k hlt
      have hf := ssum_mem (List.getElem_mem hlt); have HS := Lib.hid (ctlAll_snoc vs k hlt); have hok := Lib.hid (ctlAll_ok (vs.take k)); go_wp2_with fail; refine (Directive_any vs[k] _ (by omega)).mono ?_; rintro e w2 ⟨rfl, hb2⟩; have hC2 := hC.below hb2 hC.lt; have hZ2 := hZ.below hb2 hZ.lt; have hown2 := own_below hown hb2; have hw2 := hbel.trans (hb2.mono hbel.size); clear hC hZ hown hb2 hbel; have f2 := hC2.free; generalize ctlAll (vs.take k) = c at *; have hD := ctlOf.eq_1 vs[k]; by_cases hd : (directive vs[k]).2.2 = true
      · rw [if_pos hd] at hD
        rw [hd]
        (generalize hgenn : (directive vs[k]).1 = n at *; have Hn := Lib.hid hgenn; clear hgenn)
        (generalize hgena : (directive vs[k]).2.1 = a at *; have Ha := Lib.hid hgena; clear hgena)
        have HD := Lib.hid hD; clear hD hd; have g0 : w2.cell? ⟨w.heap.size + 1, 0, none⟩ = some (.bool c.ns) := hC2.cell 0; have g1 : w2.cell? ⟨w.heap.size + 1, 1, none⟩ = some (.bool c.nc) := hC2.cell 1; have g2 : w2.cell? ⟨w.heap.size + 1, 2, none⟩ = some (.bool c.nt) := hC2.cell 2; have g3 : w2.cell? ⟨w.heap.size + 1, 3, none⟩ = some (.bool c.pu) := hC2.cell 3; have g4 : w2.cell? ⟨w.heap.size + 1, 4, none⟩ = some (.bool c.pr) := hC2.cell 4; have g5 : w2.cell? ⟨w.heap.size + 1, 5, none⟩ = some (.bool c.mr) := hC2.cell 5; have g6 : w2.cell? ⟨w.heap.size + 1, 6, none⟩ = some (.bool c.px) := hC2.cell 6; have g7 : w2.cell? ⟨w.heap.size + 1, 7, none⟩ = some (.bool c.oi) := hC2.cell 7; have g8 : w2.cell? ⟨w.heap.size + 1, 8, none⟩ = some (.int .i64 c.ma) := hC2.cell 8; have g9 : w2.cell? ⟨w.heap.size + 1, 9, none⟩ = some (.int .i64 c.sm) := hC2.cell 9; have g10 : w2.cell? ⟨w.heap.size + 1, 10, none⟩ = some (.int .i64 c.mf) := hC2.cell 10; have g11 : w2.cell? ⟨w.heap.size + 1, 11, none⟩ = some (.int .i64 c.ms) := hC2.cell 11; have ol8 : -1 ≤ c.ma := hok.out.1.1; have ou8 : c.ma ≤ 1099511627776 := hok.out.1.2; have ol9 : -1 ≤ c.sm := hok.out.2.1.1; have ou9 : c.sm ≤ 1099511627776 := hok.out.2.1.2; have ol10 : -1 ≤ c.mf := hok.out.2.2.1.1; have ou10 : c.mf ≤ 1099511627776 := hok.out.2.2.1.2; have ol11 : -1 ≤ c.ms := hok.out.2.2.2.1; have ou11 : c.ms ≤ 1099511627776 := hok.out.2.2.2.2; have hna := numArg_le a; have hal := directive_arg vs[k]; rw [Ha.out] at hal; go_wp2_with (first | (go_at_call 121; refine (numArg_any a _ (by unfold maxLen; omega)).mono ?_; rintro e w' ⟨rfl, rfl⟩) | (go_at_call 118; first | ((with_reducible refine (countLeast_any c.ma _ (w.heap.size + 1) 8 _ ol8 ou8 (by omega) (by omega) g8 (f2 8)).mono ?_); rintro e w' ⟨rfl, rfl⟩) | ((with_reducible refine (countLeast_any c.sm _ (w.heap.size + 1) 9 _ ol9 ou9 (by omega) (by omega) g9 (f2 9)).mono ?_); rintro e w' ⟨rfl, rfl⟩) | ((with_reducible refine (countMost_any c.mf _ (w.heap.size + 1) 10 _ ol10 ou10 (by omega) (by omega) g10 (f2 10)).mono ?_); rintro e w' ⟨rfl, rfl⟩) | ((with_reducible refine (countLeast_any c.ms _ (w.heap.size + 1) 11 _ ol11 ou11 (by omega) (by omega) g11 (f2 11)).mono ?_); rintro e w' ⟨rfl, rfl⟩)))
        case' roundEnd => skip
        all_goals
          first
            | (refine ⟨⟨k + 1, by go_num, by omega, ?_, hZ2.other (by simp) _, ownsRow_setCell_below hown2 (by simp) _, hw2.setCell (by simp) _⟩, by simp [intOf]; omega⟩
               rw [HS.out, HD.out]
               first
              | ((with_reducible refine set_eq hC2 (k := 0) (says0 c hok.out a ?_)); assumption)
              | ((with_reducible refine set_eq hC2 (k := 1) (says1 c hok.out a ?_)); assumption)
              | ((with_reducible refine set_eq hC2 (k := 2) (says2 c hok.out a ?_)); assumption)
              | ((with_reducible refine set_eq hC2 (k := 3) (says3 c hok.out a ?_)); assumption)
              | ((with_reducible refine set_eq hC2 (k := 4) (says4 c hok.out a ?_)); assumption)
              | ((with_reducible refine set_eq hC2 (k := 5) (says5 c hok.out a ?_)); assumption)
              | ((with_reducible refine set_eq hC2 (k := 6) (says6 c hok.out a ?_)); assumption)
              | ((with_reducible refine set_eq hC2 (k := 7) (says7 c hok.out a ?_)); assumption)
              | ((with_reducible refine set_eq hC2 (k := 8) (says8 c hok.out a ?_)); assumption)
              | ((with_reducible refine set_eq hC2 (k := 9) (says9 c hok.out a ?_)); assumption)
              | ((with_reducible refine set_eq hC2 (k := 10) (says10 c hok.out a ?_)); assumption)
              | ((with_reducible refine set_eq hC2 (k := 11) (says11 c hok.out a ?_ _ ?_))
                 · assumption
                 · first
                   | (have q : a.isEmpty = true := by assumption
                      rw [if_pos (by simpa using q)]; rfl)
                   | (have q : a.isEmpty = false := by assumption
                      rw [if_neg (by simpa using q)])))
            | (refine ⟨⟨k + 1, by go_num, by omega, ?_, hZ2, hown2, hw2⟩, by simp [intOf]; omega⟩
               rw [HS.out, HD.out, ← says12 c hok.out a]
               · exact hC2
               all_goals assumption)
      · rw [if_neg hd] at hD
        have hd' : (directive vs[k]).2.2 = false := (by simpa using hd)
        rw [hd']
        (generalize hgenn : (directive vs[k]).1 = n at *; have Hn := Lib.hid hgenn; clear hgenn)
        (generalize hgena : (directive vs[k]).2.1 = a at *; have Ha := Lib.hid hgena; clear hgena)
        have HD := Lib.hid hD; clear hD hd hd'; go_wp2
        go_roundw
        case rel => exact ⟨k + 1, by go_num, by omega, by rw [HS.out, HD.out, join_none c hok.out]; exact hC2, hZ2, hown2, hw2⟩
        case measure => simp [intOf]; omega
    · have hk' : k = vs.length := by omega
      subst hk'; rw [List.take_length, ← hu.out] at hC
      (generalize hgenc : readC l = c at *; have Hc := Lib.hid hgenc; clear hgenc)
      have g0 : wr.cell? ⟨w.heap.size + 1, 0, none⟩ = some (.bool c.ns) := hC.cell 0; have g1 : wr.cell? ⟨w.heap.size + 1, 1, none⟩ = some (.bool c.nc) := hC.cell 1; have g2 : wr.cell? ⟨w.heap.size + 1, 2, none⟩ = some (.bool c.nt) := hC.cell 2; have g3 : wr.cell? ⟨w.heap.size + 1, 3, none⟩ = some (.bool c.pu) := hC.cell 3; have g4 : wr.cell? ⟨w.heap.size + 1, 4, none⟩ = some (.bool c.pr) := hC.cell 4; have g5 : wr.cell? ⟨w.heap.size + 1, 5, none⟩ = some (.bool c.mr) := hC.cell 5; have g6 : wr.cell? ⟨w.heap.size + 1, 6, none⟩ = some (.bool c.px) := hC.cell 6; have g7 : wr.cell? ⟨w.heap.size + 1, 7, none⟩ = some (.bool c.oi) := hC.cell 7; have g8 : wr.cell? ⟨w.heap.size + 1, 8, none⟩ = some (.int .i64 c.ma) := hC.cell 8; have g9 : wr.cell? ⟨w.heap.size + 1, 9, none⟩ = some (.int .i64 c.sm) := hC.cell 9; have g10 : wr.cell? ⟨w.heap.size + 1, 10, none⟩ = some (.int .i64 c.mf) := hC.cell 10; have g11 : wr.cell? ⟨w.heap.size + 1, 11, none⟩ = some (.int .i64 c.ms) := hC.cell 11; have z0 : wr.cell? ⟨w.heap.size, 0, none⟩ = some (.bool false) := hZ.cell 0; have z1 : wr.cell? ⟨w.heap.size, 1, none⟩ = some (.bool false) := hZ.cell 1; have z2 : wr.cell? ⟨w.heap.size, 2, none⟩ = some (.bool false) := hZ.cell 2; have z3 : wr.cell? ⟨w.heap.size, 3, none⟩ = some (.bool false) := hZ.cell 3; have z4 : wr.cell? ⟨w.heap.size, 4, none⟩ = some (.bool false) := hZ.cell 4; have z5 : wr.cell? ⟨w.heap.size, 5, none⟩ = some (.bool false) := hZ.cell 5; have z6 : wr.cell? ⟨w.heap.size, 6, none⟩ = some (.bool false) := hZ.cell 6; have z7 : wr.cell? ⟨w.heap.size, 7, none⟩ = some (.bool false) := hZ.cell 7; have z8 : wr.cell? ⟨w.heap.size, 8, none⟩ = some (.int .i64 0) := hZ.cell 8; have z9 : wr.cell? ⟨w.heap.size, 9, none⟩ = some (.int .i64 0) := hZ.cell 9; have z10 : wr.cell? ⟨w.heap.size, 10, none⟩ = some (.int .i64 0) := hZ.cell 10; have z11 : wr.cell? ⟨w.heap.size, 11, none⟩ = some (.int .i64 0) := hZ.cell 11; have f0 := hZ.free; go_wp2; have hR := ((((((((((((hZ.set 0 (.bool c.ns)).set 1 (.bool c.nc)).set 2 (.bool c.nt)).set 3 (.bool c.pu)).set 4 (.bool c.pr)).set 5 (.bool c.mr)).set 6 (.bool c.px)).set 7 (.bool c.oi)).set 8 (.int .i64 c.ma)).set 9 (.int .i64 c.sm)).set 10 (.int .i64 c.mf)).set 11 (.int .i64 c.ms)); rw [cells_all] at hR; exact ret_ctl rfl hR ⟨by rw [Hc.out], ((((((((((((hbel.setCell (Nat.le_refl _) _).setCell (Nat.le_refl _) _).setCell (Nat.le_refl _) _).setCell (Nat.le_refl _) _).setCell (Nat.le_refl _) _).setCell (Nat.le_refl _) _).setCell (Nat.le_refl _) _).setCell (Nat.le_refl _) _).setCell (Nat.le_refl _) _).setCell (Nat.le_refl _) _).setCell (Nat.le_refl _) _).setCell (Nat.le_refl _) _)⟩
end Go.Proofs.YtahapblgmehngaaGreatDoor
namespace Go.Dr
end Go.Dr
namespace Go.Proofs.YtahapblgmehngaaGreatDoor
open Go.RowKit Go.Dr
theorem parseF_le (x : Bytes) (now : Int) (hx : x.length ≤ 1099511627776) : (parseF x now).1 ≤ 1000000000000 := by
  have hy := yearOf_clamp now; have o1 := own_ok (p := ⟨x, 0, 0, 0, 0, 0, 0, 0, false⟩) hx; have o2 := old_ok (p := ⟨x, 0, 0, 0, 0, 0, 0, 0, false⟩) hx _ hy.2; have o3 := bare_ok (p := ⟨x, 0, 0, 0, 0, 0, 0, 0, false⟩) hx; unfold parseF parseY; generalize Pt.own ⟨x, 0, 0, 0, 0, 0, 0, 0, false⟩ = p1 at *; generalize Pt.old ⟨x, 0, 0, 0, 0, 0, 0, 0, false⟩ (yearOf (clampD now / 86400)) = p2 at *; generalize Pt.bare ⟨x, 0, 0, 0, 0, 0, 0, 0, false⟩ = p3 at *
  split
  · exact moment_le p1 o1.year o1.month
  split
  · exact moment_le p2 o2.year o2.month
  split
  · exact moment_le p3 o3.year o3.month
  · exact Nat.zero_le _
theorem momV_le (l : List F) (name : Bytes) (came : Int) (hl : fsum l ≤ 1099511627776) : momV l name came ≤ 1000000000000 := by
  have hs := ssum_values l name; unfold momV
  split
  · rename_i x e
    rw [e] at hs; simp only [ssum, List.map_cons, List.map_nil, List.sum_cons, List.sum_nil] at hs; exact parseF_le x _ (by omega)
  · exact Nat.zero_le _
theorem clamp_any (t : Int) (w : World) : Calls Tryz.prog 128 #[.int .i64 t] w fun e w' => e = .returned (.int .i64 (clampT t : Nat)) ∧ w' = w := by
  have H := Lib.hid (clampT_int t); go_enter Tryz.func128, Tryz.ntmps128
  go_wp2; go_ret; exact ⟨ret_int H.out, rfl⟩
theorem clampB_any (t : Int) (w : World) : Calls Tryz.prog 128 #[.int .i64 t] w fun e w' => e = .returned (.int .i64 (clampT t : Nat)) ∧ Below w.heap.size w w' :=
  (clamp_any t w).mono fun _ _ ⟨h1, h2⟩ => ⟨h1, by subst h2; exact Below.refl _ _⟩
theorem frMoment_any (q : En) (l : List F) (name : Bytes) (w : World) (h : Fs w.heap.size w q.vf l) (hl : fsum l ≤ 1099511627776) (hn : name.length ≤ 1099511627776) :
    Calls Tryz.prog 127 #[q.val, S name] w fun e w' => e = .returned (.tuple #[.int .i64 (momV l name q.came : Nat), .bool (momB l name q.came)]) ∧ Below w.heap.size w w' := by
  obtain ⟨pf, cf, hfv, -⟩ := h.form; obtain ⟨key, vp, st, vf, body, asked, came⟩ := q; simp only at hfv h ⊢; subst hfv; have hQ := Blk.new w 36 (En.cells ⟨key, vp, st, .slice pf l.length cf, body, asked, came⟩); have hbx : Below w.heap.size w (w.alloc (.cells (En.cells ⟨key, vp, st, .slice pf l.length cf, body, asked, came⟩) 36)) := (Below.refl _ _).alloc (Nat.le_refl _) _; have h1 := (h.below hbx).mono hbx.size; have HS := ssum_values l name; unfold En.val; go_enter Tryz.func127, Tryz.ntmps127
  go_wp2_with fail; refine (Values_any l name _ _ h1 hl hn).mono ?_; rintro e w1 ⟨vv, rfl, hvv, hb1⟩; have hr : Ss w1.heap.size w1 vv (values l name) := Ss.own hvv; generalize hvs : values l name = vs at *; have HVS := Lib.hid hvs; obtain ⟨pa, ca, rfl, hm⟩ := hr.form; have hw1 := Bl.tr hbx hb1; have hQ1 := hQ.on hb1; clear hvv h1 hQ hbx hb1 h hvs
  match vs, hr, HVS, hm, HS with
  | [x], hr, HVS, hm, HS =>
    obtain ⟨b, off, rfl, hbb, c0⟩ := hr.at 0 (by simp); simp at c0
    have hx : x.length ≤ 1099511627776 := (by simp [ssum] at HS; omega); have hpl := parseF_le x (clampT came : Nat) hx; have HV := Lib.hid (momV_one (came := came) HVS.out); have HB := Lib.hid (momB_one (came := came) HVS.out); have HI := Lib.hid (parseB_int x (clampT came : Nat)); have C := Lib.hid (fun w => Parse_any x (clampT came : Nat) w hx); generalize parseB x (clampT came : Nat) = pb at *; generalize parseF x (clampT came : Nat) = pr at *; have c6 : w1.cell? ⟨w.heap.size, 6, none⟩ = some (.int .i64 came) := hQ1.cell 6; clear HS hm HVS; go_wp2_with fail
    go_region_held3 (fun w' => w'.cell? ⟨w.heap.size, 6, none⟩ = some (.int .i64 came) ∧ w'.cell? ⟨b, off, none⟩ = some (S x))
      (first | go_keep)
      (first
        | (go_at_call 128; refine (clampB_any came _).mono ?_; rintro e w2 ⟨rfl, hb2⟩; replace hb2 := Bl.undrew hb2; have hr2 := (hr.below hb2).mono hb2.size; have hQ2 := hQ1.on hb2; have hww2 := Bl.tr hw1 hb2; have c62 : w2.cell? ⟨w.heap.size, 6, none⟩ = some (.int .i64 came) := hQ2.cell 6; have c02 : w2.cell? ⟨b, off, none⟩ = some (S x) := by (rw [hb2.cell (p := ⟨b, off, none⟩) hbb]; exact c0); skip)
        | (go_at_call 149; refine (C.out _).mono ?_; rintro e w3 ⟨rfl, hb3⟩; have hww3 := Bl.tr hww2 hb3; have hQ3 := hQ2.on hb3; have c63 : w3.cell? ⟨w.heap.size, 6, none⟩ = some (.int .i64 came) := hQ3.cell 6; have c03 : w3.cell? ⟨b, off, none⟩ = some (S x) := by (rw [hb3.cell (p := ⟨b, off, none⟩) (Nat.lt_of_lt_of_le hbb hb2.size)]; exact c02)))
    go_wp2; go_ret2; exact ⟨by rw [HV.out, HB.out, ← HI.out]; rfl, hww3⟩
  | [], hr, HVS, hm, HS =>
    have HV := Lib.hid (momV_nil (came := came) HVS.out); have HB := Lib.hid (momB_nil (came := came) HVS.out); go_wp2; go_ret2; exact ⟨by rw [HV.out, HB.out]; rfl, hw1⟩
  | x :: y :: r, hr, HVS, hm, HS =>
    have HV := Lib.hid (momV_more (came := came) HVS.out); have HB := Lib.hid (momB_more (came := came) HVS.out); have g : (((x :: y :: r).length : Int) == 1) = false := (by simp; omega); have g2 : (((x :: y :: r).length : Int) != 1) = true := (by simp; omega); clear HVS HS; generalize hn : (x :: y :: r).length = n at *; go_wp2; go_ret2; exact ⟨by rw [HV.out, HB.out]; rfl, hw1⟩
theorem frTold_any (q : En) (l : List F) (w : World) (h : Fs w.heap.size w q.vf l) (hl : fsum l ≤ 1099511627776) :
    Calls Tryz.prog 129 #[q.val] w fun e w' => e = .returned (.int .i64 (toldF l : Nat)) ∧ Below w.heap.size w w' := by
  obtain ⟨pf, cf, hfv, -⟩ := h.form; obtain ⟨key, vp, st, vf, body, asked, came⟩ := q; simp only at hfv h; subst hfv; have hQ := Blk.new w 36 (En.cells ⟨key, vp, st, .slice pf l.length cf, body, asked, came⟩); have hbx : Below w.heap.size w (w.alloc (.cells (En.cells ⟨key, vp, st, .slice pf l.length cf, body, asked, came⟩) 36)) := (Below.refl _ _).alloc (Nat.le_refl _) _; have h1 := (h.below hbx).mono hbx.size; have HS := ssum_values l ageN; have HV : Hid (toldF l = match values l ageN with | [] => 0 | x :: _ => numArg x) := rfl; generalize toldF l = tf at *; unfold En.val; go_enter Tryz.func129, Tryz.ntmps129
  go_wp2_with fail; refine (Values_any l ageN _ _ h1 hl (by decide)).mono ?_; rintro e w1 ⟨vv, rfl, hvv, hb1⟩; have hr : Ss w1.heap.size w1 vv (values l ageN) := Ss.own hvv; generalize values l ageN = vs at *; obtain ⟨pa, ca, rfl, hm⟩ := hr.form; have hw1 := Bl.tr hbx hb1; clear hvv h1 hQ hbx hb1 h
  match vs, hr, HV, hm, HS with
  | [], hr, HV, hm, HS =>
    go_wp2; go_ret; exact ⟨ret_int (by rw [HV.out]; rfl), hw1⟩
  | x :: r, hr, HV, hm, HS =>
    obtain ⟨b, off, rfl, hbb, c0⟩ := hr.at 0 (by simp); simp at c0
    have hx : x.length ≤ maxLen := (by simp [ssum] at HS; unfold maxLen; omega); have HV : Hid (tf = numArg x) := HV; have HN := Lib.hid (numArg.eq_1 x); have g : (((x :: r).length : Int) == 0) = false := (by simp; omega); generalize hn : (x :: r).length = n at *; clear HS; have hn0 : 0 < n := (by rw [← hn]; simp); clear hn; go_wp2_with fail; refine (Decimal_any x _ hx).mono ?_; rintro e w' ⟨rfl, rfl⟩; by_cases h : (number 10 x).2 = 11
    · (generalize hgenz : (number 10 x).1 = z at *; have Hz := Lib.hid hgenz; clear hgenz)
      rw [h] at *; clear h; go_wp2; go_ret; exact ⟨ret_int (by rw [HV.out, HN.out]; rfl), hw1⟩
    · have h1 : (((number 10 x).2 : Int) == 11) = false := by rw [beq_eq_false_iff_ne]; omega
      have HH := Lib.hid h; clear h
      (generalize hgenz : (number 10 x).1 = z at *; have Hz := Lib.hid hgenz; clear hgenz)
      (generalize hgeny : (number 10 x).2 = y at *; have Hy := Lib.hid hgeny; clear hgeny)
      go_wp2; go_ret; exact ⟨ret_int (by rw [HV.out, HN.out, if_neg HH.out]), hw1⟩
theorem age_int (ap tl cc ca cn A : Nat) (hA : A = min 1099511627776 (max ap (tl + (cc - ca)) + (cn - cc))) :
    (min 1099511627776 (max (ap : Int) ((tl : Int) + max 0 ((cc : Int) - (ca : Int))) + max 0 ((cn : Int) - (cc : Int)))) = (A : Nat) := by omega
theorem Age_any (q : En) (l : List F) (now : Int) (w : World) (h : Fs w.heap.size w q.vf l) (hl : fsum l ≤ 1099511627776) :
    Calls Tryz.prog 107 #[q.val, .int .i64 now] w fun e w' => e = .returned (.int .i64 (ageF l q.asked q.came now : Nat)) ∧ Below w.heap.size w w' := by
  have hM := fun w h => frMoment_any q l dateN w h hl (by decide)
  have hT := fun w h => frTold_any q l w h hl
  obtain ⟨pf, cf, hfv, -⟩ := h.form; obtain ⟨key, vp, st, vf, body, asked, came⟩ := q; simp only at hfv h hM hT ⊢; subst hfv; simp only [En.val] at hM hT ⊢; have HA : Hid (ageF l asked came now = min 1099511627776 (max (appF l came) (toldF l + (clampT came - clampT asked)) + (clampT now - clampT came))) := rfl; have HP : Hid (appF l came = if momB l dateN came = true then clampT came - momV l dateN came else 0) := rfl; have hv := momV_le l dateN came hl; have ht := toldF_le l; have k1 := clampT_le asked; have k2 := clampT_le came; have k3 := clampT_le now; have C1 := Lib.hid (fun w => clamp_any asked w); have C2 := Lib.hid (fun w => clamp_any came w); have C3 := Lib.hid (fun w => clamp_any now w); have HM := Lib.hid hM; have HT := Lib.hid hT; generalize momV l dateN came = mv at *; generalize momB l dateN came = mb at *; generalize toldF l = tl at *; generalize ageF l asked came now = A at *; generalize appF l came = ap at *; generalize clampT asked = ca at *; generalize clampT came = cc at *; generalize clampT now = cn at *; have HX := Lib.hid (age_int ap tl cc ca cn A HA.out); have hap : ap ≤ 1099511627776 := (by rw [HP.out]; split <;> omega); clear hM hT HA; have hQ := Blk.new w 36 #[S key, vp, .int .i64 st, .slice pf l.length cf, S body, .int .i64 asked, .int .i64 came]; have hbx : Below w.heap.size w (w.alloc (.cells #[S key, vp, .int .i64 st, .slice pf l.length cf, S body, .int .i64 asked, .int .i64 came] 36)) := (Below.refl _ _).alloc (Nat.le_refl _) _; have h1 := (h.below hbx).mono hbx.size; go_enter Tryz.func107, Tryz.ntmps107
  go_wp2_with fail; go_quiet (first | (go_at_call 128; exact Calls.quiet_of_same (C1.out _)) | (go_at_call 128; exact Calls.quiet_of_same (C2.out _)))
  go_wp2_with fail; have h2 := h1.drewN nq; have hQ2 := hQ.drewN nq; have hw2 := Bl.drewN hbx nq; clear hQ h1 hbx h; generalize (w.alloc (.cells #[S key, vp, .int .i64 st, .slice pf l.length cf, S body, .int .i64 asked, .int .i64 came] 36)).drewN nq = w2 at *; refine (HM.out w2 h2).mono ?_; rintro e w3 ⟨rfl, hb3⟩; have h3 := (h2.below hb3).mono hb3.size; have hQ3 := hQ2.on hb3; have hw3 := Bl.tr hw2 hb3; have c0 := hQ3.cell 0; have c1 := hQ3.cell 1; have c2 := hQ3.cell 2; have c3 := hQ3.cell 3; have c4 := hQ3.cell 4; have c5 := hQ3.cell 5; have c6 := hQ3.cell 6; simp at c0 c1 c2 c3 c4 c5 c6
  clear h2 hQ2 hw2 hb3 HM C1 C2
  cases mb with
  | true =>
    have HPx : Hid (max 0 ((cc : Int) - (mv : Int)) = (ap : Nat)) := (by show _ = _; rw [HP.out, if_pos rfl]; omega); go_wp2_with fail; refine (HT.out w3 h3).mono ?_; rintro e w4 ⟨rfl, hb4⟩; have hw4 := Bl.tr hw3 hb4; go_wp2_with fail; refine (C3.out w4).mono ?_; rintro e w5 ⟨rfl, hw5⟩; obtain rfl : w4 = w5 := hw5.symm; go_wp2; go_ret; exact ⟨ret_int (by have h1 := HX.out; have h2 := HPx.out; clear HX HP HPx; omega), hw4⟩
  | false =>
    have HPx : Hid ((0 : Int) = (ap : Nat)) := (by show _ = _; rw [HP.out, if_neg (by simp)]; rfl); go_wp2_with fail; refine (HT.out w3 h3).mono ?_; rintro e w4 ⟨rfl, hb4⟩; have hw4 := Bl.tr hw3 hb4; go_wp2_with fail; refine (C3.out w4).mono ?_; rintro e w5 ⟨rfl, hw5⟩; obtain rfl : w4 = w5 := hw5.symm; go_wp2; go_ret; exact ⟨ret_int (by have h1 := HX.out; have h2 := HPx.out; clear HX HP HPx; omega), hw4⟩
open Go.RowKit Go.Dr
theorem known_any (st : Int) (w : World) : Calls Tryz.prog 92 #[.int .i64 st] w fun e w' => e = .returned (.bool (knownB st)) ∧ w' = w := by
  have HK : Hid (knownB st = (st == 200 || (st == 203 || (st == 204 || (st == 300 || (st == 301 || (st == 308 || (st == 404 || (st == 405 || (st == 410 || (st == 414 || (st == 501 || false)))))))))))) := rfl; go_enter Tryz.func92, Tryz.ntmps92
  go_wp2
  all_goals go_ret
  all_goals exact ⟨ret_bool (by rw [HK.out]; clear HK; first | (simp [*]; done) | (exfalso; simp_all; done)), rfl⟩
theorem frHas_any (l : List F) (name : Bytes) (v : Value) (w : World) (h : Fs w.heap.size w v l) (hl : fsum l ≤ 1099511627776) (hn : name.length ≤ 1099511627776) :
    Calls Tryz.prog 85 #[v, S name] w fun e w' => e = .returned (.bool (hasN l name)) ∧ Below w.heap.size w w' := by
  go_enter Tryz.func85, Tryz.ntmps85
  go_wp2_with fail; refine (Values_any l name v w h hl hn).mono ?_; rintro e w1 ⟨vv, rfl, hvv, hb1⟩; obtain ⟨pa, ca, rfl, hm⟩ := (Ss.own hvv).form; have HY : Hid (hasN l name = decide (0 < (values l name).length)) := rfl; generalize (values l name).length = n at *; go_wp2; go_ret; exact ⟨ret_bool (by rw [HY.out]), hb1⟩
theorem Lifetime_any (q : En) (l : List F) (w : World) (h : Fs w.heap.size w q.vf l) (hl : fsum l ≤ 1099511627776) :
    Calls Tryz.prog 106 #[q.val] w fun e w' => e = .returned (.int .i64 (lifeF l q.st q.came : Nat)) ∧ Below w.heap.size w w' := by
  have hM1 := fun w h => frMoment_any q l dateN w h hl (by decide)
  have hM2 := fun w h => frMoment_any q l expiresN w h hl (by decide)
  have hM3 := fun w h => frMoment_any q l lastN w h hl (by decide)
  obtain ⟨pf, cf, hfv, -⟩ := h.form; obtain ⟨key, vp, st, vf, body, asked, came⟩ := q; simp only at hfv h hM1 hM2 hM3 ⊢; subst hfv; simp only [En.val] at hM1 hM2 hM3 ⊢; have hV1 := momV_le l dateN came hl; have hV2 := momV_le l expiresN came hl; have hV3 := momV_le l lastN came hl; have hC := readC_ok l; have HR := Lib.hid (fun w v h => Read_any l v w h hl); have HH := Lib.hid (fun w v h => frHas_any l expiresN v w h hl (by decide)); have HK := Lib.hid (fun w => known_any st w); have HT := Lib.hid (fun w => clamp_any came w); have kT := clampT_le came; have HL : Hid (lifeF l st came = if 0 ≤ (readC l).sm then (readC l).sm.toNat else if 0 ≤ (readC l).ma then (readC l).ma.toNat else if hasN l expiresN = true then (if momB l expiresN came = true then momV l expiresN came - madeF l came else 0) else if momB l lastN came = true ∧ knownB st = true ∧ momV l lastN came ≤ madeF l came then min 86400 ((madeF l came - momV l lastN came) / 10) else 0) := rfl; have HMd : Hid (madeF l came = if momB l dateN came = true then momV l dateN came else clampT came) := rfl; have HM1 := Lib.hid hM1; have HM2 := Lib.hid hM2; have HM3 := Lib.hid hM3; clear hM1 hM2 hM3; generalize lifeF l st came = L at *; generalize madeF l came = md at *; generalize momV l dateN came = v1 at *; generalize momV l expiresN came = v2 at *; generalize momV l lastN came = v3 at *; generalize momB l dateN came = b1 at *; generalize momB l expiresN came = b2 at *; generalize momB l lastN came = b3 at *; generalize hasN l expiresN = hE at *; generalize knownB st = kB at *; generalize clampT came = cc at *; generalize readC l = c at *; have hQ := Blk.new w 36 #[S key, vp, .int .i64 st, .slice pf l.length cf, S body, .int .i64 asked, .int .i64 came]; have hbx : Below w.heap.size w (w.alloc (.cells #[S key, vp, .int .i64 st, .slice pf l.length cf, S body, .int .i64 asked, .int .i64 came] 36)) := (Below.refl _ _).alloc (Nat.le_refl _) _; have h1 := (h.below hbx).mono hbx.size; go_enter Tryz.func106, Tryz.ntmps106
  go_wp2_with fail; refine (HR.out _ _ h1).mono ?_; rintro e w1 ⟨rfl, hb1⟩; have hw1 := Bl.tr hbx hb1; have hf1 := (h1.below hb1).mono hb1.size; have hQ1 := hQ.on hb1; clear hQ h1 hbx h hb1; have hal : Below w1.heap.size w1 (w1.alloc (.cells #[.bool c.ns, .bool c.nc, .bool c.nt, .bool c.pu, .bool c.pr, .bool c.mr, .bool c.px, .bool c.oi, .int .i64 c.ma, .int .i64 c.sm, .int .i64 c.mf, .int .i64 c.ms] 80)) := (Below.refl _ _).alloc (Nat.le_refl _) _; have hw2 := Bl.tr hw1 hal; have hf2 := (hf1.below hal).mono hal.size; have hQ2 := hQ1.on hal; by_cases h1 : 0 ≤ c.sm
  · have HL : Hid (c.sm = (L : Int)) := by show _ = _; rw [HL.out, if_pos h1]; omega
    go_wp2; go_ret; exact ⟨ret_int HL.out, hw2⟩
  have HL : Hid (L = if 0 ≤ c.ma then c.ma.toNat else if hE = true then (if b2 = true then v2 - md else 0) else if b3 = true ∧ kB = true ∧ v3 ≤ md then min 86400 ((md - v3) / 10) else 0) := (by show _ = _; rw [HL.out, if_neg h1]); by_cases h2 : 0 ≤ c.ma
  · have HL : Hid (c.ma = (L : Int)) := by show _ = _; rw [HL.out, if_pos h2]; omega
    go_wp2; go_ret; exact ⟨ret_int HL.out, hw2⟩
  have HL : Hid (L = if hE = true then (if b2 = true then v2 - md else 0) else if b3 = true ∧ kB = true ∧ v3 ≤ md then min 86400 ((md - v3) / 10) else 0) := (by show _ = _; rw [HL.out, if_neg h2]); have hC2 := Blk.new w1 80 #[.bool c.ns, .bool c.nc, .bool c.nt, .bool c.pu, .bool c.pr, .bool c.mr, .bool c.px, .bool c.oi, .int .i64 c.ma, .int .i64 c.sm, .int .i64 c.mf, .int .i64 c.ms]; have k8 : (w1.alloc (.cells #[.bool c.ns, .bool c.nc, .bool c.nt, .bool c.pu, .bool c.pr, .bool c.mr, .bool c.px, .bool c.oi, .int .i64 c.ma, .int .i64 c.sm, .int .i64 c.mf, .int .i64 c.ms] 80)).cell? ⟨w1.heap.size, 8, none⟩ = some (.int .i64 c.ma) := hC2.cell 8; have k9 : (w1.alloc (.cells #[.bool c.ns, .bool c.nc, .bool c.nt, .bool c.pu, .bool c.pr, .bool c.mr, .bool c.px, .bool c.oi, .int .i64 c.ma, .int .i64 c.sm, .int .i64 c.mf, .int .i64 c.ms] 80)).cell? ⟨w1.heap.size, 9, none⟩ = some (.int .i64 c.sm) := hC2.cell 9; have hlt := hQ1.lt; obtain ⟨z0, z1, z2, z3, z4, z5, z6⟩ := hQ1.c7; clear hC2 hf1 hQ1 hw1 hal; go_wp2_with fail; generalize w1.alloc (.cells #[.bool c.ns, .bool c.nc, .bool c.nt, .bool c.pu, .bool c.pr, .bool c.mr, .bool c.px, .bool c.oi, .int .i64 c.ma, .int .i64 c.sm, .int .i64 c.mf, .int .i64 c.ms] 80) = w2 at *; clear k8 k9 z0 z1 z2 z3 z4 z5 z6; obtain ⟨c0, c1, c2, c3, c4, c5, c6⟩ := hQ2.c7; refine (HM1.out w2 hf2).mono ?_; rintro e w3 ⟨rfl, hb3⟩; have hw3 := Bl.tr hw2 hb3; have hf3 := (hf2.below hb3).mono hb3.size; have hQ3 := hQ2.on hb3; clear c0 c1 c2 c3 c4 c5 c6 hw2 hf2 hQ2 hb3 HM1 HR; obtain ⟨c0, c1, c2, c3, c4, c5, c6⟩ := hQ3.c7
  cases b1 with
  | true =>
    obtain rfl : md = v1 := by rw [HMd.out, if_pos rfl]
    go_wp2_with fail; refine (HH.out w3 _ hf3).mono ?_; rintro e w4 ⟨rfl, hb4⟩; have hw4 := Bl.tr hw3 hb4; have hf4 := (hf3.below hb4).mono hb4.size; have hQ4 := hQ3.on hb4; clear c0 c1 c2 c3 c4 c5 c6 hw3 hf3 hQ3 hb4 HH; obtain ⟨c0, c1, c2, c3, c4, c5, c6⟩ := hQ4.c7
    cases hE with
    | true =>
      have HLa : Hid (L = if b2 = true then v2 - md else 0) := (by show _ = _; rw [HL.out, if_pos rfl]); clear HL; go_wp2_with fail; refine (HM2.out w4 hf4).mono ?_; rintro e w5 ⟨rfl, hb5⟩; have hw5 := Bl.tr hw4 hb5
      cases b2 with
      | true =>
        have HLb : Hid (max 0 ((v2 : Int) - (md : Int)) = (L : Int)) := (by show _ = _; rw [HLa.out, if_pos rfl]; omega); clear HLa; go_wp2; go_ret; exact ⟨ret_int HLb.out, hw5⟩
      | false =>
        have HLb : Hid ((0 : Int) = (L : Int)) := (by show _ = _; rw [HLa.out]; rfl); clear HLa; go_wp2; go_ret; exact ⟨ret_int HLb.out, hw5⟩
    | false =>
      have HLa : Hid (L = if b3 = true ∧ kB = true ∧ v3 ≤ md then min 86400 ((md - v3) / 10) else 0) := (by show _ = _; rw [HL.out, if_neg (by simp)]); clear HL; go_wp2_with fail; refine (HM3.out w4 hf4).mono ?_; rintro e w5 ⟨rfl, hb5⟩; have hw5 := Bl.tr hw4 hb5; have hQ5 := hQ4.on hb5; clear c0 c1 c2 c3 c4 c5 c6; obtain ⟨c0, c1, c2, c3, c4, c5, c6⟩ := hQ5.c7
      cases b3 with
      | false =>
        have HLb : Hid ((0 : Int) = (L : Int)) := (by show _ = _; rw [HLa.out, if_neg (by simp)]; rfl); clear HLa; go_wp2; go_ret; exact ⟨ret_int HLb.out, hw5⟩
      | true =>
        cases kB with
        | false =>
          have HLb : Hid ((0 : Int) = (L : Int)) := (by show _ = _; rw [HLa.out, if_neg (by simp)]; rfl); clear HLa; go_wp2_with fail; refine (HK.out w5).mono ?_; rintro e w6 ⟨rfl, hw6⟩; obtain rfl : w5 = w6 := hw6.symm; go_wp2; go_ret; exact ⟨ret_int HLb.out, hw5⟩
        | true =>
          by_cases hle : v3 ≤ md
          · have HLb : Hid (min 86400 (((md : Int) - (v3 : Int)) / 10) = (L : Int)) := by show _ = _; rw [HLa.out, if_pos ⟨rfl, rfl, hle⟩]; omega
            clear HLa; go_wp2_with fail; refine (HK.out w5).mono ?_; rintro e w6 ⟨rfl, hw6⟩; obtain rfl : w5 = w6 := hw6.symm; go_wp2; go_ret; exact ⟨ret_int HLb.out, hw5⟩
          · have HLb : Hid ((0 : Int) = (L : Int)) := by show _ = _; rw [HLa.out, if_neg (by simp; omega)]; rfl
            clear HLa; go_wp2_with fail; refine (HK.out w5).mono ?_; rintro e w6 ⟨rfl, hw6⟩; obtain rfl : w5 = w6 := hw6.symm; go_wp2; go_ret; exact ⟨ret_int HLb.out, hw5⟩
  | false =>
    obtain rfl : md = cc := by rw [HMd.out, if_neg (by simp)]
    go_wp2_with fail; refine (HT.out w3).mono ?_; rintro e w3' ⟨rfl, hw3'⟩; obtain rfl : w3 = w3' := hw3'.symm; go_wp2_with fail; refine (HH.out w3 _ hf3).mono ?_; rintro e w4 ⟨rfl, hb4⟩; have hw4 := Bl.tr hw3 hb4; have hf4 := (hf3.below hb4).mono hb4.size; have hQ4 := hQ3.on hb4; clear c0 c1 c2 c3 c4 c5 c6 hw3 hf3 hQ3 hb4 HH; obtain ⟨c0, c1, c2, c3, c4, c5, c6⟩ := hQ4.c7
    cases hE with
    | true =>
      have HLa : Hid (L = if b2 = true then v2 - md else 0) := (by show _ = _; rw [HL.out, if_pos rfl]); clear HL; go_wp2_with fail; refine (HM2.out w4 hf4).mono ?_; rintro e w5 ⟨rfl, hb5⟩; have hw5 := Bl.tr hw4 hb5
      cases b2 with
      | true =>
        have HLb : Hid (max 0 ((v2 : Int) - (md : Int)) = (L : Int)) := (by show _ = _; rw [HLa.out, if_pos rfl]; omega); clear HLa; go_wp2; go_ret; exact ⟨ret_int HLb.out, hw5⟩
      | false =>
        have HLb : Hid ((0 : Int) = (L : Int)) := (by show _ = _; rw [HLa.out]; rfl); clear HLa; go_wp2; go_ret; exact ⟨ret_int HLb.out, hw5⟩
    | false =>
      have HLa : Hid (L = if b3 = true ∧ kB = true ∧ v3 ≤ md then min 86400 ((md - v3) / 10) else 0) := (by show _ = _; rw [HL.out, if_neg (by simp)]); clear HL; go_wp2_with fail; refine (HM3.out w4 hf4).mono ?_; rintro e w5 ⟨rfl, hb5⟩; have hw5 := Bl.tr hw4 hb5; have hQ5 := hQ4.on hb5; clear c0 c1 c2 c3 c4 c5 c6; obtain ⟨c0, c1, c2, c3, c4, c5, c6⟩ := hQ5.c7
      cases b3 with
      | false =>
        have HLb : Hid ((0 : Int) = (L : Int)) := (by show _ = _; rw [HLa.out, if_neg (by simp)]; rfl); clear HLa; go_wp2; go_ret; exact ⟨ret_int HLb.out, hw5⟩
      | true =>
        cases kB with
        | false =>
          have HLb : Hid ((0 : Int) = (L : Int)) := (by show _ = _; rw [HLa.out, if_neg (by simp)]; rfl); clear HLa; go_wp2_with fail; refine (HK.out w5).mono ?_; rintro e w6 ⟨rfl, hw6⟩; obtain rfl : w5 = w6 := hw6.symm; go_wp2; go_ret; exact ⟨ret_int HLb.out, hw5⟩
        | true =>
          by_cases hle : v3 ≤ md
          · have HLb : Hid (min 86400 (((md : Int) - (v3 : Int)) / 10) = (L : Int)) := by show _ = _; rw [HLa.out, if_pos ⟨rfl, rfl, hle⟩]; omega
            clear HLa; go_wp2_with fail; refine (HK.out w5).mono ?_; rintro e w6 ⟨rfl, hw6⟩; obtain rfl : w5 = w6 := hw6.symm; go_wp2; go_ret; exact ⟨ret_int HLb.out, hw5⟩
          · have HLb : Hid ((0 : Int) = (L : Int)) := by show _ = _; rw [HLa.out, if_neg (by simp; omega)]; rfl
            clear HLa; go_wp2_with fail; refine (HK.out w5).mono ?_; rintro e w6 ⟨rfl, hw6⟩; obtain rfl : w5 = w6 := hw6.symm; go_wp2; go_ret; exact ⟨ret_int HLb.out, hw5⟩
end Go.Proofs.YtahapblgmehngaaGreatDoor

