
/- The walks of layer 20: an answer renewed. -/
import Derived.Test.YtpbmmkonlboegaaDoorRen8
import Derived.Test.YtpbmmkonlboegaaDoorOpen2
namespace Go.Proofs.YtpbmmkonlboegaaDoor
open Go.RowKit Go.Dr

theorem fsum_news (l : List F) : fsum (newsOf l) ≤ fsum l := by
  unfold newsOf strip
  refine Nat.le_trans (fsum_filter _ _) (Nat.le_trans (fsum_filter _ _) (fsum_filter _ _))

/-- What a renewal gives: an answer whose lists are its own. -/
def RetRen (w : World) (key body : Bytes) (st a c : Int) (lp lf : List F) (e : Ending) (w' : World) : Prop :=
  ∃ vp vf, e = .returned (.agg #[S key, vp, .int .i64 st, vf, S body, .int .i64 a, .int .i64 c]) ∧ Fs w'.heap.size w' vp lp ∧ w'.ownsRow w.heap.size 31 3 vf lf.length (fcells lf) ∧ Below w.heap.size w w'

set_option maxRecDepth 100000 in
set_option maxHeartbeats 8000000 in
theorem Renewed_any (key body : Bytes) (vp vf vl : Value) (st asked came a c : Int) (lp le l : List F) (w : World) (hp : Fs w.heap.size w vp lp) (hf : Fs w.heap.size w vf le) (hl : Fs w.heap.size w vl l) (hls : fsum l ≤ 549755813888) (hes : fsum le ≤ 549755813888) (hps : lp.length * 40 ≤ 140737488351232) :
    Calls Tryd.prog 27 #[.agg #[S key, vp, .int .i64 st, vf, S body, .int .i64 asked, .int .i64 came], vl, .int .i64 a, .int .i64 c] w (RetRen w key body st a c lp (renewedF le l)) := by
  obtain ⟨pp, cp, rfl, hmp⟩ := hp.form
  obtain ⟨pf, cf, rfl, -⟩ := hf.form
  have hmf : ∀ (fn : Fn) (first cap : Array Value) (w : World), (Instr.makeFunc fn first cap).run Tryd.prog w = .ok (.func fn first cap) w := fun _ _ _ _ => rfl
  have hQ := Blk.new w 25 #[S key, .slice pp lp.length cp, .int .i64 st, .slice pf le.length cf, S body, .int .i64 asked, .int .i64 came]
  have hbx : Below w.heap.size w (w.alloc (.cells #[S key, .slice pp lp.length cp, .int .i64 st, .slice pf le.length cf, S body, .int .i64 asked, .int .i64 came] 25)) := (Below.refl _ _).alloc (Nat.le_refl _) _
  have hZ := Blk.new (w.alloc (.cells #[S key, .slice pp lp.length cp, .int .i64 st, .slice pf le.length cf, S body, .int .i64 asked, .int .i64 came] 25)) 25 #[S [], .slice none 0 0, .int .i64 0, .slice none 0 0, S [], .int .i64 0, .int .i64 0]
  have hsz : (w.alloc (.cells #[S key, .slice pp lp.length cp, .int .i64 st, .slice pf le.length cf, S body, .int .i64 asked, .int .i64 came] 25)).heap.size = w.heap.size + 1 := by simp
  rw [hsz] at hZ
  have hby := hbx.alloc hbx.size (.cells #[S [], .slice none 0 0, .int .i64 0, .slice none 0 0, S [], .int .i64 0, .int .i64 0] 25)
  have hQ1 := hQ.alloc (.cells #[S [], .slice none 0 0, .int .i64 0, .slice none 0 0, S [], .int .i64 0, .int .i64 0] 25)
  have hp1 := (hp.below hby).mono hby.size
  have hf1 := (hf.below hby).mono hby.size
  have hl1 := (hl.below hby).mono hby.size
  have hns := fsum_news l
  have hnf : fsum (strip l) ≤ fsum l := by unfold strip; exact Nat.le_trans (fsum_filter _ _) (fsum_filter _ _)
  clear hbx hQ hsz hf hl
  go_enter Tryd.func27, Tryd.ntmps27
  go_wp2_with fail
  generalize (w.alloc (.cells #[S key, .slice pp lp.length cp, .int .i64 st, .slice pf le.length cf, S body, .int .i64 asked, .int .i64 came] 25)).alloc (.cells #[S [], .slice none 0 0, .int .i64 0, .slice none 0 0, S [], .int .i64 0, .int .i64 0] 25) = w1 at *
  refine (Strip_any l vl w1 hl1 hls).mono ?_
  rintro e w2 ⟨v2, rfl, ho2, hb2⟩
  have hs2 := Fs.own ho2
  have hw2 := Bl.tr hby hb2
  have hQ2 := hQ1.on hb2
  have hZ2 := hZ.on hb2
  have hp2 := (hp1.below hb2).mono hb2.size
  have hf2 := (hf1.below hb2).mono hb2.size
  clear hby hQ1 hZ hp1 hf1 hl1 hb2 ho2
  go_wp2_with fail
  refine (onlyBody_any (strip l) v2 w2 hs2 (by omega)).mono ?_
  rintro e w3 ⟨v3, rfl, ho3, hb3⟩
  have HN : Hid (newsOf l = (strip l).filter notBody) := rfl
  rw [← HN.out] at ho3
  have hn3 := Fs.own ho3
  obtain ⟨pn, cn, rfl, hmn⟩ := hn3.form
  have hw3 := Bl.tr hw2 hb3
  have hQ3 := hQ2.on hb3
  have hZ3 := hZ2.on hb3
  have hp3 := (hp2.below hb3).mono hb3.size
  have hf3 := (hf2.below hb3).mono hb3.size
  have HR : Hid (renewedF le l = le.filter (notIn (newsOf l)) ++ newsOf l) := rfl
  clear hQ2 hZ2 hp2 hf2 hb3 hs2 hw2 ho3 HN hnf
  generalize newsOf l = news at *
  have hal : Below w3.heap.size w3 (w3.alloc (.cells #[.slice pn news.length cn] 62)) := (Below.refl _ _).alloc (Nat.le_refl _) _
  have hG := Dr.One.new w3 62 (.slice pn news.length cn)
  have hw4 := Bl.tr hw3 hal
  have hQ4 := hQ3.on hal
  have hZ4 := hZ3.on hal
  have hp4 := (hp3.below hal).mono hal.size
  have hf4 := (hf3.below hal).mono hal.size
  have hn4 := (hn3.below hal).mono hal.size
  have lQ := hQ3.lt
  have q3 := hQ3.cell 3
  simp at q3
  go_wp2_with fail
  clear hw3 hQ3 hZ3 hp3 hf3 hn3 hal lQ q3
  generalize w3.alloc (.cells #[.slice pn news.length cn] 62) = w4 at *
  generalize w3.heap.size = G at *
  refine (onlyNews_any le _ w4 hf4 (by omega) news _ G hG hn4 (by omega)).mono ?_
  rintro e w5 ⟨v5, rfl, ho5, hb5⟩
  have hw5 := Bl.tr hw4 hb5
  have hQ5 := hQ4.on hb5
  have hZ5 := hZ4.on hb5
  have hp5 := (hp4.below hb5).mono hb5.size
  have hn5 := (hn4.below hb5).mono hb5.size
  have hG5 := hG.below hb5 hG.lt
  have hz4 := hw4.size
  have hqw := hZ4.lt
  have h45 := hb5.size
  have ho5' : w5.ownsRow w4.heap.size 31 3 v5 (le.filter (notIn news)).length (fcells (le.filter (notIn news))) := ho5
  have hfo := fsum_filter le (notIn news)
  have hlo := fsum_length (le.filter (notIn news))
  have hln := fsum_length news
  clear hw4 hQ4 hZ4 hp4 hf4 hn4 hG hb5 ho5
  generalize le.filter (notIn news) = olds at *
  have gG := hG5.cell
  have lQ := hQ5.lt
  have lZ := hZ5.lt
  have lG := hG5.lt
  have fQ := hQ5.free
  have hw45 : w4.heap.size ≤ w5.heap.size := h45
  clear h45
  go_wp2_with (first
    | (at_builtin; refine wpList_appRd rfl _ _ 22 rfl w6.heap.size 55 (.agg #[.string ByteArray.empty, .string ByteArray.empty, .bool false]) 3 40 Tryd.underlying22 (by kernel_rfl) rfl (by decide) _ _ _ rfl (World.ownsRow_nil _ _ _ _) _ _ _ _ rfl (by exact hp7) (fcells_one _) (by unfold maxLen; omega) (by omega) (by simp [World.setCell]) ?_; intro a8 c8 w8 hown8 hb8; simp only [Nat.zero_add, List.nil_append] at hown8; have hQ8 := hQ7.below hb8 (by omega); have hZ8 := hZ7.below hb8 (by omega); have lQ8 := hQ8.lt; have lZ8 := hZ8.lt; have fQ8 := hQ8.free; have fZ8 := hZ8.free; have k0 : w8.cell? ⟨w.heap.size, 0, none⟩ = some (S key) := hQ8.cell 0; have k1 : w8.cell? ⟨w.heap.size, 1, none⟩ = some (.slice pp lp.length cp) := hQ8.cell 1; have k2 : w8.cell? ⟨w.heap.size, 2, none⟩ = some (.int .i64 st) := hQ8.cell 2; have k3 : w8.cell? ⟨w.heap.size, 3, none⟩ = some (.slice a6 (olds.length + news.length) c6) := hQ8.cell 3; have k4 : w8.cell? ⟨w.heap.size, 4, none⟩ = some (S body) := hQ8.cell 4; have k5 : w8.cell? ⟨w.heap.size, 5, none⟩ = some (.int .i64 asked) := hQ8.cell 5; have k6 : w8.cell? ⟨w.heap.size, 6, none⟩ = some (.int .i64 came) := hQ8.cell 6; have z0 : w8.cell? ⟨w.heap.size + 1, 0, none⟩ = some (S []) := hZ8.cell 0; have z1 : w8.cell? ⟨w.heap.size + 1, 1, none⟩ = some (.slice none 0 0) := hZ8.cell 1; have z2 : w8.cell? ⟨w.heap.size + 1, 2, none⟩ = some (.int .i64 0) := hZ8.cell 2; have z3 : w8.cell? ⟨w.heap.size + 1, 3, none⟩ = some (.slice none 0 0) := hZ8.cell 3; have z4 : w8.cell? ⟨w.heap.size + 1, 4, none⟩ = some (S []) := hZ8.cell 4; have z5 : w8.cell? ⟨w.heap.size + 1, 5, none⟩ = some (.int .i64 0) := hZ8.cell 5; have z6 : w8.cell? ⟨w.heap.size + 1, 6, none⟩ = some (.int .i64 0) := hZ8.cell 6; have hb8' : Below (w6.setCell ⟨w.heap.size, 3, none⟩ (.slice a6 (olds.length + news.length) c6)).heap.size (w6.setCell ⟨w.heap.size, 3, none⟩ (.slice a6 (olds.length + news.length) c6)) w8 := hb8.mono (by simp [World.setCell]); clear hb6tok)
    | (at_builtin; refine wpList_appRd rfl _ _ 62 rfl w4.heap.size 31 (.agg #[.string ByteArray.empty, .string ByteArray.empty, .bool false]) 3 40 Tryd.underlying62 (by kernel_rfl) rfl (by decide) _ _ _ rfl ho5' _ _ _ _ rfl hn5 (fcells_one _) (by unfold maxLen; omega) (by omega) (by omega) ?_; intro a6 c6 w6 hown6 hb6; have hb6tok := True.intro; have h56 := hb6.size; have hQ6 := hQ5.below hb6 (by omega); have hZ6 := hZ5.below hb6 hqw; have hQ7 := hQ6.set 3 (.slice a6 (olds.length + news.length) c6); have hZ7 := hZ6.other (p := ⟨w.heap.size, 3, none⟩) (by show w.heap.size + 1 ≠ w.heap.size; omega) (.slice a6 (olds.length + news.length) c6); have hW7 : Below w.heap.size w (w6.setCell ⟨w.heap.size, 3, none⟩ (.slice a6 (olds.length + news.length) c6)) := (hw5.trans (hb6.mono hz4)).setCell (Nat.le_refl _) _; have hp7 := hp.below hW7; have lQ6 := hQ6.lt; have lZ6 := hZ6.lt; have fQ6 := hQ6.free; have k0 : w6.cell? ⟨w.heap.size, 0, none⟩ = some (S key) := hQ6.cell 0; have k1 : w6.cell? ⟨w.heap.size, 1, none⟩ = some (.slice pp lp.length cp) := hQ6.cell 1; have k2 : w6.cell? ⟨w.heap.size, 2, none⟩ = some (.int .i64 st) := hQ6.cell 2; have k3 : w6.cell? ⟨w.heap.size, 3, none⟩ = some (.slice pf le.length cf) := hQ6.cell 3; have k4 : w6.cell? ⟨w.heap.size, 4, none⟩ = some (S body) := hQ6.cell 4; have k5 : w6.cell? ⟨w.heap.size, 5, none⟩ = some (.int .i64 asked) := hQ6.cell 5; have k6 : w6.cell? ⟨w.heap.size, 6, none⟩ = some (.int .i64 came) := hQ6.cell 6))
  have hne : w.heap.size + 1 ≠ w.heap.size := by omega
  have hZa := ((hZ8.other (p := ⟨w.heap.size, 1, none⟩) hne (.slice a8 lp.length c8)).other (p := ⟨w.heap.size, 5, none⟩) hne (.int .i64 a)).other (p := ⟨w.heap.size, 6, none⟩) hne (.int .i64 c)
  have hZf := (((((((hZa.set 0 (S key)).set 1 (.slice a8 lp.length c8)).set 2 (.int .i64 st)).set 3 (.slice a6 (olds.length + news.length) c6)).set 4 (S body)).set 5 (.int .i64 a)).set 6 (.int .i64 c))
  have f0 := hZf.cell 0
  have f1 := hZf.cell 1
  have f2 := hZf.cell 2
  have f3 := hZf.cell 3
  have f4 := hZf.cell 4
  have f5 := hZf.cell 5
  have f6 := hZf.cell 6
  simp at f0 f1 f2 f3 f4 f5 f6
  have hW8 := hW7.trans (hb8.mono (by omega))
  have hWf : Below w.heap.size w ((((((((((w8.setCell ⟨w.heap.size, 1, none⟩ (.slice a8 lp.length c8)).setCell ⟨w.heap.size, 5, none⟩ (.int .i64 a)).setCell ⟨w.heap.size, 6, none⟩ (.int .i64 c)).setCell ⟨w.heap.size + 1, 0, none⟩ (S key)).setCell ⟨w.heap.size + 1, 1, none⟩ (.slice a8 lp.length c8)).setCell ⟨w.heap.size + 1, 2, none⟩ (.int .i64 st)).setCell ⟨w.heap.size + 1, 3, none⟩ (.slice a6 (olds.length + news.length) c6)).setCell ⟨w.heap.size + 1, 4, none⟩ (S body)).setCell ⟨w.heap.size + 1, 5, none⟩ (.int .i64 a)).setCell ⟨w.heap.size + 1, 6, none⟩ (.int .i64 c)) := by
    refine Below.setCell ?_ (by dsimp only; omega) _
    refine Below.setCell ?_ (by dsimp only; omega) _
    refine Below.setCell ?_ (by dsimp only; omega) _
    refine Below.setCell ?_ (by dsimp only; omega) _
    refine Below.setCell ?_ (by dsimp only; omega) _
    refine Below.setCell ?_ (by dsimp only; omega) _
    refine Below.setCell ?_ (by dsimp only; omega) _
    refine Below.setCell ?_ (by dsimp only; omega) _
    refine Below.setCell ?_ (by dsimp only; omega) _
    refine Below.setCell ?_ (by dsimp only; omega) _
    exact hW8
  have hPf : ((((((((((w8.setCell ⟨w.heap.size, 1, none⟩ (.slice a8 lp.length c8)).setCell ⟨w.heap.size, 5, none⟩ (.int .i64 a)).setCell ⟨w.heap.size, 6, none⟩ (.int .i64 c)).setCell ⟨w.heap.size + 1, 0, none⟩ (S key)).setCell ⟨w.heap.size + 1, 1, none⟩ (.slice a8 lp.length c8)).setCell ⟨w.heap.size + 1, 2, none⟩ (.int .i64 st)).setCell ⟨w.heap.size + 1, 3, none⟩ (.slice a6 (olds.length + news.length) c6)).setCell ⟨w.heap.size + 1, 4, none⟩ (S body)).setCell ⟨w.heap.size + 1, 5, none⟩ (.int .i64 a)).setCell ⟨w.heap.size + 1, 6, none⟩ (.int .i64 c)).ownsRow w6.heap.size 55 3 (.slice a8 lp.length c8) lp.length (fcells lp) := by
    refine ownsRow_setCell_below ?_ (by dsimp only; omega) _
    refine ownsRow_setCell_below ?_ (by dsimp only; omega) _
    refine ownsRow_setCell_below ?_ (by dsimp only; omega) _
    refine ownsRow_setCell_below ?_ (by dsimp only; omega) _
    refine ownsRow_setCell_below ?_ (by dsimp only; omega) _
    refine ownsRow_setCell_below ?_ (by dsimp only; omega) _
    refine ownsRow_setCell_below ?_ (by dsimp only; omega) _
    refine ownsRow_setCell_below ?_ (by dsimp only; omega) _
    refine ownsRow_setCell_below ?_ (by dsimp only; omega) _
    refine ownsRow_setCell_below ?_ (by dsimp only; omega) _
    exact hown8
  have hown8' : w8.ownsRow w4.heap.size 31 3 (.slice a6 (olds.length + news.length) c6) (olds.length + news.length) (fcells olds ++ fcells news) := by
    refine own_below ?_ hb8'
    exact ownsRow_setCell_below hown6 (by show w.heap.size < w4.heap.size; omega) _
  have hFf : ((((((((((w8.setCell ⟨w.heap.size, 1, none⟩ (.slice a8 lp.length c8)).setCell ⟨w.heap.size, 5, none⟩ (.int .i64 a)).setCell ⟨w.heap.size, 6, none⟩ (.int .i64 c)).setCell ⟨w.heap.size + 1, 0, none⟩ (S key)).setCell ⟨w.heap.size + 1, 1, none⟩ (.slice a8 lp.length c8)).setCell ⟨w.heap.size + 1, 2, none⟩ (.int .i64 st)).setCell ⟨w.heap.size + 1, 3, none⟩ (.slice a6 (olds.length + news.length) c6)).setCell ⟨w.heap.size + 1, 4, none⟩ (S body)).setCell ⟨w.heap.size + 1, 5, none⟩ (.int .i64 a)).setCell ⟨w.heap.size + 1, 6, none⟩ (.int .i64 c)).ownsRow w4.heap.size 31 3 (.slice a6 (olds.length + news.length) c6) (olds.length + news.length) (fcells olds ++ fcells news) := by
    refine ownsRow_setCell_below ?_ (by dsimp only; omega) _
    refine ownsRow_setCell_below ?_ (by dsimp only; omega) _
    refine ownsRow_setCell_below ?_ (by dsimp only; omega) _
    refine ownsRow_setCell_below ?_ (by dsimp only; omega) _
    refine ownsRow_setCell_below ?_ (by dsimp only; omega) _
    refine ownsRow_setCell_below ?_ (by dsimp only; omega) _
    refine ownsRow_setCell_below ?_ (by dsimp only; omega) _
    refine ownsRow_setCell_below ?_ (by dsimp only; omega) _
    refine ownsRow_setCell_below ?_ (by dsimp only; omega) _
    refine ownsRow_setCell_below ?_ (by dsimp only; omega) _
    exact hown8'
  clear hZf hZa hQ8 hZ8 hown8 hown8' hW8 hb8 hb8' hQ5 hZ5 hQ6 hZ6 hQ7 hZ7 hp7 hW7 fQ8 fZ8 k0 k1 k2 k3 k4 k5 k6 z0 z1 z2 z3 z4 z5 z6
  generalize ((((((((((w8.setCell ⟨w.heap.size, 1, none⟩ (.slice a8 lp.length c8)).setCell ⟨w.heap.size, 5, none⟩ (.int .i64 a)).setCell ⟨w.heap.size, 6, none⟩ (.int .i64 c)).setCell ⟨w.heap.size + 1, 0, none⟩ (S key)).setCell ⟨w.heap.size + 1, 1, none⟩ (.slice a8 lp.length c8)).setCell ⟨w.heap.size + 1, 2, none⟩ (.int .i64 st)).setCell ⟨w.heap.size + 1, 3, none⟩ (.slice a6 (olds.length + news.length) c6)).setCell ⟨w.heap.size + 1, 4, none⟩ (S body)).setCell ⟨w.heap.size + 1, 5, none⟩ (.int .i64 a)).setCell ⟨w.heap.size + 1, 6, none⟩ (.int .i64 c)) = wf at *
  refine bodyPost_ret (v := .agg #[S key, .slice a8 lp.length c8, .int .i64 st, .slice a6 (olds.length + news.length) c6, S body, .int .i64 a, .int .i64 c]) (by simp [results, Tryd.results27, go_sem, f0, f1, f2, f3, f4, f5, f6]) rfl ⟨(.slice a8 lp.length c8), (.slice a6 (olds.length + news.length) c6), rfl, Rd.own hPf, ?_, hWf⟩
  rw [HR.out, List.length_append, fcells_append]
  exact own_base hFf hz4
end Go.Proofs.YtpbmmkonlboegaaDoor
