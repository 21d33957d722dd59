
/- The walks of the reference of layer 20: an answer renewed; two answers that are the same. -/
import Derived.Test.YtpbmmkonlboegaaDoorRen9
namespace Go.Proofs.YtpbmmkonlboegaaDoor
open Go.RowKit Go.Dr

theorem ssum_names (l : List F) : ssum (l.map F.n) ≤ fsum l := by
  induction l with
  | nil => simp [ssum]
  | cons f l ih => simp only [List.map_cons, ssum_cons, fsum, List.sum_cons] at *; omega

set_option maxRecDepth 100000 in
set_option maxHeartbeats 8000000 in
theorem refRenewed_any (key body : Bytes) (vp vf vl : Value) (st asked came a c : Int) (lp le l : List F) (w : World) (hp : Fs w.heap.size w vp lp) (hf : Fs w.heap.size w vf le) (hl : Fs w.heap.size w vl l) (hls : fsum l ≤ 549755813888) (hes : fsum le ≤ 549755813888) :
    Calls Tryd.prog 29 #[.agg #[S key, vp, .int .i64 st, vf, S body, .int .i64 asked, .int .i64 came], vl, .int .i64 a, .int .i64 c] w (RetRen w key body st a c lp (renewedF le l)) := by
  obtain ⟨pp, cp, rfl, hmp⟩ := hp.form
  obtain ⟨pf, cf, rfl, -⟩ := hf.form
  have hQ := Blk.new w 25 #[S key, .slice pp lp.length cp, .int .i64 st, .slice pf le.length cf, S body, .int .i64 asked, .int .i64 came]
  have hbx : Below w.heap.size w (w.alloc (.cells #[S key, .slice pp lp.length cp, .int .i64 st, .slice pf le.length cf, S body, .int .i64 asked, .int .i64 came] 25)) := (Below.refl _ _).alloc (Nat.le_refl _) _
  have hZ := Blk.new (w.alloc (.cells #[S key, .slice pp lp.length cp, .int .i64 st, .slice pf le.length cf, S body, .int .i64 asked, .int .i64 came] 25)) 25 #[S [], .slice none 0 0, .int .i64 0, .slice none 0 0, S [], .int .i64 0, .int .i64 0]
  have hsz : (w.alloc (.cells #[S key, .slice pp lp.length cp, .int .i64 st, .slice pf le.length cf, S body, .int .i64 asked, .int .i64 came] 25)).heap.size = w.heap.size + 1 := by simp
  rw [hsz] at hZ
  have hby := hbx.alloc hbx.size (.cells #[S [], .slice none 0 0, .int .i64 0, .slice none 0 0, S [], .int .i64 0, .int .i64 0] 25)
  have hQ1 := hQ.alloc (.cells #[S [], .slice none 0 0, .int .i64 0, .slice none 0 0, S [], .int .i64 0, .int .i64 0] 25)
  have hf1 := (hf.below hby).mono hby.size
  have hl1 := (hl.below hby).mono hby.size
  have hns := fsum_news l
  have hnf : fsum (strip l) ≤ fsum l := by unfold strip; exact Nat.le_trans (fsum_filter _ _) (fsum_filter _ _)
  have hss : ssum bodyNames ≤ 1099511627776 := by decide
  clear hbx hQ hsz hf hl
  go_enter Tryd.func29, Tryd.ntmps29
  go_wp2_with fail
  generalize (w.alloc (.cells #[S key, .slice pp lp.length cp, .int .i64 st, .slice pf le.length cf, S body, .int .i64 asked, .int .i64 came] 25)).alloc (.cells #[S [], .slice none 0 0, .int .i64 0, .slice none 0 0, S [], .int .i64 0, .int .i64 0] 25) = w1 at *
  refine (refStrip_any l vl w1 hl1 (by omega)).mono ?_
  rintro e w2 ⟨v2, rfl, ho2, hb2⟩
  have hs2 := Fs.own ho2
  have hw2 := Bl.tr hby hb2
  have hQ2 := hQ1.on hb2
  have hZ2 := hZ.on hb2
  have hf2 := (hf1.below hb2).mono hb2.size
  clear hby hQ1 hZ hf1 hl1 hb2 ho2
  have hal : Below w2.heap.size w2 (w2.alloc (.cells (bodyNames.map S).toArray 9)) := (Below.refl _ _).alloc (Nat.le_refl _) _
  have hN : Ss (w2.alloc (.cells (bodyNames.map S).toArray 9)).heap.size (w2.alloc (.cells (bodyNames.map S).toArray 9)) (.slice (some ⟨w2.heap.size, 0, none⟩) 4 4) bodyNames := (Rd.lit w2 9 (bodyNames.map S).toArray 1 4 rfl (by decide)).mono (by simp)
  have hs3 := (hs2.below hal).mono hal.size
  have hw3 := Bl.tr hw2 hal
  have hQ3 := hQ2.on hal
  have hZ3 := hZ2.on hal
  have hf3 := (hf2.below hal).mono hal.size
  clear hw2 hQ2 hZ2 hf2 hs2 hal
  go_wp2_with fail
  change Calls _ _ _ (w2.alloc (.cells (bodyNames.map S).toArray 9)) _
  generalize w2.alloc (.cells (bodyNames.map S).toArray 9) = w3 at *
  refine (refWithout_any (strip l) bodyNames v2 _ w3 hs3 hN (by omega) hss).mono ?_
  rintro e w4 ⟨v4, rfl, ho4, hb4⟩
  rw [news_eq] at ho4
  have hn4 := Fs.own ho4
  obtain ⟨pn, cn, rfl, hmn⟩ := hn4.form
  have hw4 := Bl.tr hw3 hb4
  have hQ4 := hQ3.on hb4
  have hZ4 := hZ3.on hb4
  have hf4 := (hf3.below hb4).mono hb4.size
  have HR : Hid (renewedF le l = without le ((newsOf l).map F.n) ++ newsOf l) := by show _ = _; rw [olds_eq]; rfl
  have hln := fsum_length (newsOf l)
  have hnm := ssum_names (newsOf l)
  clear hw3 hQ3 hZ3 hf3 hb4 hN hs3 ho4 hnf
  generalize newsOf l = news at *
  go_wp2
  go_loopw [10, 11] (fun v' i wr => ∃ k : Nat, i = .int .i64 k ∧ k ≤ news.length ∧ wr.ownsRow w4.heap.size 9 1 v' ((news.map F.n).take k).length (((news.map F.n).take k).map S) ∧ Below w4.heap.size w4 wr) (fun _ i _ => news.length - (intOf i).toNat)
  case atStart => exact ⟨0, rfl, Nat.zero_le _, World.ownsRow_nil _ _ _ _, Below.refl _ _⟩
  case round =>
    obtain ⟨k, rfl, hk, hown, hbel⟩ := hrel
    by_cases hlt : k < news.length
    · obtain ⟨b, off, rfl, hbb, c0, c1, c2⟩ := (hn4.below hbel).at k hlt
      have HV : Hid ((news.map F.n).take (k + 1) = (news.map F.n).take k ++ [news[k].n]) := by show _ = _; rw [take_snoc _ k (by simpa using hlt)]; simp
      have hvl : ((news.map F.n).take k).length ≤ k := by simp; omega
      generalize (news.map F.n).take k = out at *
      go_wp2_with (at_builtin; refine wpList_app1 rfl _ _ 39 rfl w4.heap.size (.string ByteArray.empty) 16 Tryd.underlying39 (by kernel_rfl) rfl rfl _ _ _ rfl hown rfl (by omega) (by decide) hbel.size ?_; intro a' c' w5 hown5 hb5 hz5)
      go_roundw
      case rel => exact ⟨k + 1, by go_num, by omega, by rw [HV.out]; simpa using hown5, hbel.trans hb5⟩
      case measure => simp [intOf]; omega
    · have hk' : k = news.length := by omega
      subst hk'
      rw [List.take_of_length_le (by simp)] at hown
      have hnames := Ss.own hown
      have hw5 := Bl.tr hw4 hbel
      have hQ5 := hQ4.on hbel
      have hZ5 := hZ4.on hbel
      have hf5 := (hf4.below hbel).mono hbel.size
      have hn5 := (hn4.below hbel).mono hbel.size
      have lQ := hQ5.lt
      have lZ := hZ5.lt
      have lZ6 : w.heap.size + 1 < wr.heap.size + 1 := by omega
      have hne : w.heap.size + 1 ≠ wr.heap.size := by omega
      have k0 : wr.cell? ⟨w.heap.size, 0, none⟩ = some (S key) := hQ5.cell 0
      have k1 : wr.cell? ⟨w.heap.size, 1, none⟩ = some (.slice pp lp.length cp) := hQ5.cell 1
      have k2 : wr.cell? ⟨w.heap.size, 2, none⟩ = some (.int .i64 st) := hQ5.cell 2
      have k3 : wr.cell? ⟨w.heap.size, 3, none⟩ = some (.slice pf le.length cf) := hQ5.cell 3
      have k4 : wr.cell? ⟨w.heap.size, 4, none⟩ = some (S body) := hQ5.cell 4
      have k5 : wr.cell? ⟨w.heap.size, 5, none⟩ = some (.int .i64 asked) := hQ5.cell 5
      have k6 : wr.cell? ⟨w.heap.size, 6, none⟩ = some (.int .i64 came) := hQ5.cell 6
      have hX := Blk.new wr 25 #[S key, .slice pp lp.length cp, .int .i64 st, .slice none 0 0, S body, .int .i64 a, .int .i64 c]
      have hal6 : Below wr.heap.size wr (wr.alloc (.cells #[S key, .slice pp lp.length cp, .int .i64 st, .slice none 0 0, S body, .int .i64 a, .int .i64 c] 25)) := (Below.refl _ _).alloc (Nat.le_refl _) _
      have hw6 := Bl.tr hw5 hal6
      have hZ6 := hZ5.on hal6
      have hf6 := (hf5.below hal6).mono hal6.size
      have hn6 := (hn5.below hal6).mono hal6.size
      have hnames6 := (hnames.below hal6).mono hal6.size
      have hx6 : (wr.alloc (.cells #[S key, .slice pp lp.length cp, .int .i64 st, .slice none 0 0, S body, .int .i64 a, .int .i64 c] 25)).heap.size = wr.heap.size + 1 := by simp
      go_wp2_with fail
      clear hQ5 hZ5 hf5 hn5 hnames hal6 hw5 k0 k1 k2 k3 k4 k5 k6 lQ
      generalize wr.alloc (.cells #[S key, .slice pp lp.length cp, .int .i64 st, .slice none 0 0, S body, .int .i64 a, .int .i64 c] 25) = w6 at *
      have hx6' : wr.heap.size < w6.heap.size := by omega
      rw [← hx6] at lZ6
      clear hx6
      generalize wr.heap.size = XB at *
      refine (refWithout_any le (news.map F.n) _ _ w6 hf6 hnames6 (by omega) (by omega)).mono ?_
      rintro e w7 ⟨v7, rfl, ho7, hb7⟩
      have hw7 := Bl.tr hw6 hb7
      have hX7 := hX.on hb7
      have hZ7 := hZ6.on hb7
      have hn7 := (hn6.below hb7).mono hb7.size
      have h67 := hb7.size
      have hwl : (without le (news.map F.n)).length ≤ le.length := without_length le (news.map F.n)
      have hle := fsum_length le
      clear hf6 hn6 hnames6 hX hZ6 hb7
      generalize without le (news.map F.n) = olds at *
      have lX := hX7.lt
      have fX := hX7.free
      have hz6 := hw6.size
      have hzl := hZ7.lt
      have hZX : w.heap.size + 1 < w6.heap.size := lZ6
      have hZXne : w.heap.size + 1 ≠ XB := hne
      go_wp2_with (at_builtin; refine wpList_appRd rfl _ _ 23 rfl w6.heap.size 31 (.agg #[.string ByteArray.empty, .string ByteArray.empty, .bool false]) 3 40 Tryd.underlying23 (by kernel_rfl) rfl (by decide) _ _ _ rfl ho7 _ _ _ _ rfl hn7 (fcells_one _) (by unfold maxLen; omega) (by omega) (by omega) ?_; intro a8 c8 w8 hown8 hb8; have hX8 := hX7.below hb8 hx6'; have hZ8 := hZ7.below hb8 hZX; have lX8 := hX8.lt; have lZ8 := hZ8.lt; have fX8 := hX8.free; have fZ8 := hZ8.free; have x0 : w8.cell? ⟨XB, 0, none⟩ = some (S key) := hX8.cell 0; have x1 : w8.cell? ⟨XB, 1, none⟩ = some (.slice pp lp.length cp) := hX8.cell 1; have x2 : w8.cell? ⟨XB, 2, none⟩ = some (.int .i64 st) := hX8.cell 2; have x3 : w8.cell? ⟨XB, 3, none⟩ = some (.slice none 0 0) := hX8.cell 3; have x4 : w8.cell? ⟨XB, 4, none⟩ = some (S body) := hX8.cell 4; have x5 : w8.cell? ⟨XB, 5, none⟩ = some (.int .i64 a) := hX8.cell 5; have x6 : w8.cell? ⟨XB, 6, none⟩ = some (.int .i64 c) := hX8.cell 6; have z0 : w8.cell? ⟨w.heap.size + 1, 0, none⟩ = some (S []) := hZ8.cell 0; have z1 : w8.cell? ⟨w.heap.size + 1, 1, none⟩ = some (.slice none 0 0) := hZ8.cell 1; have z2 : w8.cell? ⟨w.heap.size + 1, 2, none⟩ = some (.int .i64 0) := hZ8.cell 2; have z3 : w8.cell? ⟨w.heap.size + 1, 3, none⟩ = some (.slice none 0 0) := hZ8.cell 3; have z4 : w8.cell? ⟨w.heap.size + 1, 4, none⟩ = some (S []) := hZ8.cell 4; have z5 : w8.cell? ⟨w.heap.size + 1, 5, none⟩ = some (.int .i64 0) := hZ8.cell 5; have z6 : w8.cell? ⟨w.heap.size + 1, 6, none⟩ = some (.int .i64 0) := hZ8.cell 6)
      have hZa := hZ8.other (p := ⟨XB, 3, none⟩) hZXne (.slice a8 (olds.length + news.length) c8)
      have hZf := (((((((hZa.set 0 (S key)).set 1 (.slice pp lp.length cp)).set 2 (.int .i64 st)).set 3 (.slice a8 (olds.length + news.length) c8)).set 4 (S body)).set 5 (.int .i64 a)).set 6 (.int .i64 c))
      have f0 := hZf.cell 0
      have f1 := hZf.cell 1
      have f2 := hZf.cell 2
      have f3 := hZf.cell 3
      have f4 := hZf.cell 4
      have f5 := hZf.cell 5
      have f6 := hZf.cell 6
      simp at f0 f1 f2 f3 f4 f5 f6
      have hW8 : Below w.heap.size w w8 := hw7.trans (hb8.mono hz6)
      have hWf : Below w.heap.size w ((((((((w8.setCell ⟨XB, 3, none⟩ (.slice a8 (olds.length + news.length) c8)).setCell ⟨w.heap.size + 1, 0, none⟩ (S key)).setCell ⟨w.heap.size + 1, 1, none⟩ (.slice pp lp.length cp)).setCell ⟨w.heap.size + 1, 2, none⟩ (.int .i64 st)).setCell ⟨w.heap.size + 1, 3, none⟩ (.slice a8 (olds.length + news.length) c8)).setCell ⟨w.heap.size + 1, 4, none⟩ (S body)).setCell ⟨w.heap.size + 1, 5, none⟩ (.int .i64 a)).setCell ⟨w.heap.size + 1, 6, none⟩ (.int .i64 c)) := by
        refine Below.setCell ?_ (by dsimp only; omega) _
        refine Below.setCell ?_ (by dsimp only; omega) _
        refine Below.setCell ?_ (by dsimp only; omega) _
        refine Below.setCell ?_ (by dsimp only; omega) _
        refine Below.setCell ?_ (by dsimp only; omega) _
        refine Below.setCell ?_ (by dsimp only; omega) _
        refine Below.setCell ?_ (by dsimp only; omega) _
        refine Below.setCell ?_ (by dsimp only; omega) _
        exact hW8
      have hFf : ((((((((w8.setCell ⟨XB, 3, none⟩ (.slice a8 (olds.length + news.length) c8)).setCell ⟨w.heap.size + 1, 0, none⟩ (S key)).setCell ⟨w.heap.size + 1, 1, none⟩ (.slice pp lp.length cp)).setCell ⟨w.heap.size + 1, 2, none⟩ (.int .i64 st)).setCell ⟨w.heap.size + 1, 3, none⟩ (.slice a8 (olds.length + news.length) c8)).setCell ⟨w.heap.size + 1, 4, none⟩ (S body)).setCell ⟨w.heap.size + 1, 5, none⟩ (.int .i64 a)).setCell ⟨w.heap.size + 1, 6, none⟩ (.int .i64 c)).ownsRow w6.heap.size 31 3 (.slice a8 (olds.length + news.length) c8) (olds.length + news.length) (fcells olds ++ fcells news) := by
        refine ownsRow_setCell_below ?_ (by dsimp only; omega) _
        refine ownsRow_setCell_below ?_ (by dsimp only; omega) _
        refine ownsRow_setCell_below ?_ (by dsimp only; omega) _
        refine ownsRow_setCell_below ?_ (by dsimp only; omega) _
        refine ownsRow_setCell_below ?_ (by dsimp only; omega) _
        refine ownsRow_setCell_below ?_ (by dsimp only; omega) _
        refine ownsRow_setCell_below ?_ (by dsimp only; omega) _
        refine ownsRow_setCell_below ?_ (by dsimp only; omega) _
        exact hown8
      have hPf := (hp.below hWf).mono hWf.size
      clear hZf hZa hX8 hZ8 hown8 hW8 hb8 fX8 fZ8 x0 x1 x2 x3 x4 x5 x6 z0 z1 z2 z3 z4 z5 z6 hX7 hZ7 hn7 hw7
      generalize ((((((((w8.setCell ⟨XB, 3, none⟩ (.slice a8 (olds.length + news.length) c8)).setCell ⟨w.heap.size + 1, 0, none⟩ (S key)).setCell ⟨w.heap.size + 1, 1, none⟩ (.slice pp lp.length cp)).setCell ⟨w.heap.size + 1, 2, none⟩ (.int .i64 st)).setCell ⟨w.heap.size + 1, 3, none⟩ (.slice a8 (olds.length + news.length) c8)).setCell ⟨w.heap.size + 1, 4, none⟩ (S body)).setCell ⟨w.heap.size + 1, 5, none⟩ (.int .i64 a)).setCell ⟨w.heap.size + 1, 6, none⟩ (.int .i64 c)) = wf at *
      refine bodyPost_ret (v := .agg #[S key, .slice pp lp.length cp, .int .i64 st, .slice a8 (olds.length + news.length) c8, S body, .int .i64 a, .int .i64 c]) (by simp [results, Tryd.results29, go_sem, f0, f1, f2, f3, f4, f5, f6]) rfl ⟨.slice pp lp.length cp, (.slice a8 (olds.length + news.length) c8), rfl, hPf, ?_, hWf⟩
      rw [HR.out, List.length_append, fcells_append]
      exact own_base hFf (by omega)
end Go.Proofs.YtpbmmkonlboegaaDoor
