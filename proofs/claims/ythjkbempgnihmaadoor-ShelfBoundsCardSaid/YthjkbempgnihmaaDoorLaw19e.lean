
/- The walk of a law of layer 19: an entry stays as it is, whatever is put beside it under other keys. Printed by keepgen.py. -/
import Derived.Test.YthjkbempgnihmaaDoorLaw19d
import Derived.Test.YthjkbempgnihmaaDoorShk
namespace Go.Proofs.YthjkbempgnihmaaDoor
open Go.RowKit Go.Dr

abbrev Doz : Array Value := #[.int .i64 0, .int .i64 0, S [], .slice none 0 0, .int .i64 0, .slice none 0 0, S [], .int .i64 0, .int .i64 0, .slice none 0 0]
set_option linter.unusedSimpArgs false in
set_option linter.unusedVariables false in
set_option linter.unnecessarySimpa false in
theorem Keep.more {l : List Nd} {nd : Nd} {key : Bytes} {last : Int} {C C' : Nat} (h : Keep l nd key last C) (hC : C ≤ C') : Keep l nd key last C' := ⟨h.mem, h.isKey, h.only, h.ids, Nat.le_trans h.cost hC⟩

set_option linter.unusedSimpArgs false in
set_option linter.unusedVariables false in
set_option linter.unnecessarySimpa false in
set_option maxRecDepth 100000 in
set_option maxHeartbeats 32000000 in
theorem keeps_law (q : En) (lp lf : List F) (vo : Value) (others : List Ex) (w : World) (hp : Fs w.heap.size w q.vp lp) (hf : Fs w.heap.size w q.vf lf) (ho : Xs w.heap.size w vo others) (hok : (⟨0, 0, q, .slice none 0 0, lp, lf, []⟩ : Dv).Ok) (hoks : ∀ x ∈ others, x.Ok) :
    Calls Tryd.prog 5 #[q.val, vo] w fun e w' => e = .returned (.bool true) ∧ Below w.heap.size w w' := by
  obtain ⟨ap, kp, hvp, -⟩ := hp.form
  obtain ⟨af, kf, hvf, -⟩ := hf.form
  obtain ⟨ao, ko, rfl, hom⟩ := ho.form
  obtain ⟨key, vp, st, vf, body, asked, came⟩ := q
  simp only [En.val] at *
  subst hvp hvf
  obtain ⟨w0, ew⟩ : ∃ w0 : World, w0 = w.alloc (.cells #[S key, .slice ap lp.length kp, .int .i64 st, .slice af lf.length kf, S body, .int .i64 asked, .int .i64 came] 28) := ⟨_, rfl⟩
  have hb0 : Below w.heap.size w w0 := by rw [ew]; exact (Below.refl _ _).alloc (Nat.le_refl _) _
  have hE0 : Blk w0 w.heap.size 28 #[S key, .slice ap lp.length kp, .int .i64 st, .slice af lf.length kf, S body, .int .i64 asked, .int .i64 came] := by rw [ew]; exact Blk.new _ _ _
  obtain ⟨B, eB⟩ : ∃ B, B = w.heap.size := ⟨_, rfl⟩
  rw [← eB] at hb0 hE0 hp hf ho
  have HB := Lib.hid eB
  have hB0 : B < w0.heap.size := hE0.lt
  go_enter Tryd.func5, Tryd.ntmps5
  go_upto_region 1 with fail
  rw [← ew, ← eB]
  clear ew eB
  go_wp2_with fail
  refine (awake19_any w0).mono ?_
  rintro e w1 ⟨rfl, hb1⟩
  have hE1 := hE0.on hb1
  have hw1 : Below B w w1 := hb0.trans (hb1.mono (Nat.le_of_lt hB0))
  have hB1 : B < w1.heap.size := hE1.lt
  (have x0 : w1.cell? ⟨B, 0, none⟩ = some (S key) := hE1.cell 0; have x1 : w1.cell? ⟨B, 1, none⟩ = some (.slice ap lp.length kp) := hE1.cell 1; have x2 : w1.cell? ⟨B, 2, none⟩ = some (.int .i64 st) := hE1.cell 2; have x3 : w1.cell? ⟨B, 3, none⟩ = some (.slice af lf.length kf) := hE1.cell 3; have x4 : w1.cell? ⟨B, 4, none⟩ = some (S body) := hE1.cell 4; have x5 : w1.cell? ⟨B, 5, none⟩ = some (.int .i64 asked) := hE1.cell 5; have x6 : w1.cell? ⟨B, 6, none⟩ = some (.int .i64 came) := hE1.cell 6)
  obtain ⟨G, eG⟩ : ∃ G, G = w1.heap.size := ⟨_, rfl⟩
  obtain ⟨wa, ea⟩ : ∃ wa : World, wa = w1.alloc (.cells #[.int .i64 0, .int .i64 0, S key, .slice ap lp.length kp, .int .i64 st, .slice af lf.length kf, S body, .int .i64 asked, .int .i64 came, .slice none 0 0] 30) := ⟨_, rfl⟩
  have hrow : wa.ownsRow G 30 10 (.slice (some ⟨G, 0, none⟩) 1 1) 1 (dcells [(⟨0, 0, ⟨key, .slice ap lp.length kp, st, .slice af lf.length kf, body, asked, came⟩, .slice none 0 0, lp, lf, []⟩ : Dv)]) := by
    rw [ea, eG]
    exact own_lit1 w1 30 #[.int .i64 0, .int .i64 0, S key, .slice ap lp.length kp, .int .i64 st, .slice af lf.length kf, S body, .int .i64 asked, .int .i64 came, .slice none 0 0] 10 1 rfl (by decide)
  have hEa : Blk wa B 28 #[S key, .slice ap lp.length kp, .int .i64 st, .slice af lf.length kf, S body, .int .i64 asked, .int .i64 came] := by rw [ea]; exact hE1.alloc _
  have hba : Below B w wa := by rw [ea]; exact hw1.alloc (Nat.le_of_lt hB1) _
  have hGa : G < wa.heap.size := by rw [ea, eG]; simp
  have hBG : B < G := by omega
  have HA := Lib.hid ea
  have HG := Lib.hid eG
  clear ea eG hb0 hE0 hB0 hb1 hE1 hw1 hB1
  go_upto_region 4 with fail
  rw [← HG.out, ← HA.out]
  clear HA HG x0 x1 x2 x3 x4 x5 x6
  go_wp2
  go_loopw [5, 6] (fun v i wr => ∃ k : Nat, i = .int .i64 k ∧ k ≤ others.length ∧ k ≤ 59 ∧ wr.ownsRow G 30 10 v (k + 1) (dcells ((⟨0, 0, ⟨key, .slice ap lp.length kp, st, .slice af lf.length kf, body, asked, came⟩, .slice none 0 0, lp, lf, []⟩ : Dv) :: (others.take k).map Dof)) ∧ Below G wa wr) (fun _ i _ => others.length - (intOf i).toNat)
  case atStart => exact ⟨0, rfl, Nat.zero_le _, by omega, hrow, Below.refl _ _⟩
  case round =>
    obtain ⟨k, rfl, hk, hk59, hown, hbr⟩ := hrel
    have hwr : Below B w wr := hba.trans (hbr.mono (Nat.le_of_lt hBG))
    have hor := ho.below hwr
    have hzr := hbr.size
    obtain ⟨av, cv, hv5⟩ := row_form hown
    subst hv5
    by_cases hlt : k < others.length
    · by_cases h59 : k < 59
      · obtain ⟨b, off, rfl, hbb, c0, c1, c2, c3, c4, c5, c6⟩ := hor.at k hlt
        have hx2 := hor.2 others[k] (List.getElem_mem hlt)
        have hsn : others.take (k + 1) = others.take k ++ [others[k]] := take_snoc others k hlt
        obtain ⟨axp, kxp, hxp, -⟩ := hx2.1.form
        obtain ⟨axf, kxf, hxf, -⟩ := hx2.2.form
        generalize others[k] = x at *
        obtain ⟨⟨xkey, xvp, xst, xvf, xbody, xa, xc⟩, xlp, xlf⟩ := x
        simp only at *
        subst hxp hxf
        have hG1 : G ≤ wr.heap.size := by omega
        go_wp2_with (at_builtin; refine wpList_appRd rfl _ _ 24 rfl G 30 (.agg Doz) 10 144 Tryd.underlying24 (by kernel_rfl) rfl (by decide) _ _ _ rfl (by exact hown.alloc _) _ _ _ _ rfl (by exact Rd.lit wr 30 #[.int .i64 0, .int .i64 0, S xkey, .slice axp xlp.length kxp, .int .i64 xst, .slice axf xlf.length kxf, S xbody, .int .i64 xa, .int .i64 xc, .slice none 0 0] 10 1 rfl (by decide)) (Dv.one (Dof ⟨⟨xkey, .slice axp xlp.length kxp, xst, .slice axf xlf.length kxf, xbody, xa, xc⟩, xlp, xlf⟩) ⟨_, _, _, rfl⟩ ⟨_, _, _, rfl⟩ ⟨_, _, _, rfl⟩) (by unfold maxLen; omega) (by omega) (by simp; omega) ?_; intro a2 c2' w2 hown2 hb2)
        go_roundw
        case rel => exact ⟨k + 1, by go_num, by omega, by omega, by
          have e : dcells (⟨0, 0, ⟨key, .slice ap lp.length kp, st, .slice af lf.length kf, body, asked, came⟩, .slice none 0 0, lp, lf, []⟩ :: (others.take (k + 1)).map Dof) = dcells (⟨0, 0, ⟨key, .slice ap lp.length kp, st, .slice af lf.length kf, body, asked, came⟩, .slice none 0 0, lp, lf, []⟩ :: (others.take k).map Dof) ++ #[.int .i64 0, .int .i64 0, S xkey, .slice axp xlp.length kxp, .int .i64 xst, .slice axf xlf.length kxf, S xbody, .int .i64 xa, .int .i64 xc, .slice none 0 0].toList := by
            rw [hsn, List.map_append, ← List.cons_append, dcells_append]
            rfl
          rw [e]
          exact hown2, (hbr.alloc hG1 _).trans hb2⟩
        case measure => simp [intOf]; omega
      ·
        have hdec : decide (k < 59) = false := by simp; omega
        obtain ⟨w2, rfl⟩ : ∃ w2 : World, w2 = wr := ⟨_, rfl⟩
        have hE2 := hEa.below hbr hBG
        clear hEa hba
        have hB2 : B < w2.heap.size := hE2.lt
        have hL : (⟨0, 0, ⟨key, .slice ap lp.length kp, st, .slice af lf.length kf, body, asked, came⟩, .slice none 0 0, lp, lf, []⟩ :: (others.take k).map Dof : List Dv).length = k + 1 := by
          rw [List.length_cons, List.length_map, List.length_take]
          omega
        obtain ⟨L, eL⟩ : ∃ L : List Dv, L = ⟨0, 0, ⟨key, .slice ap lp.length kp, st, .slice af lf.length kf, body, asked, came⟩, .slice none 0 0, lp, lf, []⟩ :: (others.take k).map Dof := ⟨_, rfl⟩
        have hd0 : (⟨0, 0, ⟨key, .slice ap lp.length kp, st, .slice af lf.length kf, body, asked, came⟩, .slice none 0 0, lp, lf, []⟩ : Dv) ∈ L := by rw [eL]; simp
        have hLok : ∀ d ∈ L, d.Ok := by
          rw [eL]
          intro d hd
          rcases List.mem_cons.1 hd with rfl | hd
          · exact hok
          · obtain ⟨x, hx, rfl⟩ := List.mem_map.1 hd
            exact Dof_ok (hoks x (List.mem_of_mem_take hx))
        have hD2 : Ds w2.heap.size w2 (.slice av (k + 1) cv) L := by
          refine ⟨?_, ?_⟩
          · rw [eL, hL]
            exact Rd.own hown
          · rw [eL]
            intro d hd
            rcases List.mem_cons.1 hd with rfl | hd
            · exact ⟨(hp.below hwr).mono (Nat.le_of_lt hB2), (hf.below hwr).mono (Nat.le_of_lt hB2), Rd.nil _ _ _⟩
            · obtain ⟨x, hx, rfl⟩ := List.mem_map.1 hd
              have := hor.2 x (List.mem_of_mem_take hx)
              exact ⟨this.1.mono (Nat.le_of_lt hB2), this.2.mono (Nat.le_of_lt hB2), Rd.nil _ _ _⟩
        have hLz : ∀ d ∈ L, d.vl = .slice none 0 0 ∧ d.ll = [] := by
          rw [eL]
          intro d hd
          rcases List.mem_cons.1 hd with rfl | hd
          · exact ⟨rfl, rfl⟩
          · obtain ⟨x, hx, rfl⟩ := List.mem_map.1 hd
            exact ⟨rfl, rfl⟩
        rw [← eL] at hL
        have HLZ := Lib.hid hLz
        clear eL hown hbr hor hok hoks hrow hGa hLz
        go_wp2_with fail
        refine (few19_any L _ w2 hD2 hLok).mono ?_
        rintro e w3 ⟨b, rfl, hsm, hb3⟩
        have HSM := Lib.hid hsm
        clear hsm
        have hE3 := hE2.on hb3
        have hw3 : Below B w w3 := hwr.trans (hb3.mono (Nat.le_of_lt hB2))
        have hD3 := (hD2.below hb3).mono hb3.size
        have hB3 : B < w3.heap.size := hE3.lt
        clear hE2 hD2 hB2 hb3 hwr hLok
        cases b with
        | false =>
          go_wp2
          go_ret
          exact ⟨rfl, by rw [← HB.out]; exact hw3⟩
        | true =>
        have HSm : Hid (∀ d ∈ L, Small d) := fun d hd => HSM.out rfl d (by rw [List.take_of_length_le (by omega)]; exact hd)
        have hS := HSm.out _ hd0
        have q1 : key.length ≤ 65536 := hS.key
        have q2 : body.length ≤ 2097152 := hS.body
        have q3 : fsum lp ≤ 551600 := hS.sum
        have q4 : fsum lf ≤ 131072 := hS.lf
        clear hS hd0 HSM
        have HN := New_any 1048576 (by omega) (by omega) w3
        go_wp2_with fail
        refine HN.mono ?_
        rintro e w4 ⟨rfl, hb4, n1, n2, n3⟩
        have hs4 : Sh w3.heap.size w3.heap.size w4 (w3.heap.size + 2) w3.heap.size (w3.heap.size + 1) 1048576 0 [] := sh_new n1 n2 n3 (Nat.le_refl _) (by omega) (by omega)
        obtain ⟨R, eR⟩ : ∃ R, R = w3.heap.size := ⟨_, rfl⟩
        rw [← eR] at hs4 hB3 hb4 hD3 ⊢
        have hE4 := hE3.below hb4 hB3
        have hw4 : Below B w w4 := hw3.trans (hb4.mono (Nat.le_of_lt hB3))
        have hD4 := hD3.below hb4
        have hR4 : R < w4.heap.size := hs4.rlt
        have hfb : ∀ l : List Nd, ∀ w' last, Sh R R w' (R + 2) R (R + 1) 1048576 last l → ∀ k, Foot (R + 2) R (R + 1) l k → R ≤ k := fun l w' last h => h.base
        clear HN n1 n2 n3 hb4 hE3 hw3 hD3 eR
        (have x0 : w4.cell? ⟨B, 0, none⟩ = some (S key) := hE4.cell 0; have x1 : w4.cell? ⟨B, 1, none⟩ = some (.slice ap lp.length kp) := hE4.cell 1; have x2 : w4.cell? ⟨B, 2, none⟩ = some (.int .i64 st) := hE4.cell 2; have x3 : w4.cell? ⟨B, 3, none⟩ = some (.slice af lf.length kf) := hE4.cell 3; have x4 : w4.cell? ⟨B, 4, none⟩ = some (S body) := hE4.cell 4; have x5 : w4.cell? ⟨B, 5, none⟩ = some (.int .i64 asked) := hE4.cell 5; have x6 : w4.cell? ⟨B, 6, none⟩ = some (.int .i64 came) := hE4.cell 6)
        have hst4 : ∀ w', But (Foot (R + 2) R (R + 1) []) w4 w' → Below B w w' := fun w' hb => hw4.trans (hb.below (fun k hk => by have := hs4.base k hk; omega) (by omega))
        have hst4z : ∀ w', But (Foot (R + 2) R (R + 1) []) w4 w' → B ≤ w'.heap.size := fun w' hb => by have := hb.size; omega
        by_cases hc : 64 + key.length + body.length + fsum lf + fsum lp ≤ 1048576
        · have hPut := Put_any R R (R + 2) R (R + 1) 1048576 0 [] ⟨key, .slice ap lp.length kp, st, .slice af lf.length kf, body, asked, came⟩ lp lf w4 hs4 (by omega) (by omega) (fun w' hb => (hp.below (hst4 w' hb)).mono (hst4z w' hb)) (fun w' hb => (hf.below (hst4 w' hb)).mono (hst4z w' hb)) (by show key.length ≤ _; omega) (by show body.length ≤ _; omega) (by omega) (by omega) (by simp) (by omega) 1048576 rfl hc
          go_wp2_with fail
          refine hPut.mono ?_
          rintro e w5 ⟨rfl, nd, hnx, hnb, hs5, hb5⟩
          have hs5 : Sh R R w5 (R + 2) R (R + 1) 1048576 1 [nd] := hs5
          have hnx : nd.x = It.of 1 ⟨key, .slice ap lp.length kp, st, .slice af lf.length kf, body, asked, came⟩ lp lf := hnx
          have hE5 := hE4.but hb5 (fun hk => by have := hs4.base B hk; omega)
          have hR45 : Below R w4 w5 := hb5.below hs4.base (Nat.le_of_lt hR4)
          have hw5 : Below B w w5 := hw4.trans (hR45.mono (Nat.le_of_lt hB3))
          have hD5 := hD4.below hR45
          have hR5 : R < w5.heap.size := hs5.rlt
          clear x0 x1 x2 x3 x4 x5 x6 hPut hb5 hst4 hst4z hE4 hs4 hw4 hD4 hR4 hR45 hnb
          (have x0 : w5.cell? ⟨B, 0, none⟩ = some (S key) := hE5.cell 0; have x1 : w5.cell? ⟨B, 1, none⟩ = some (.slice ap lp.length kp) := hE5.cell 1; have x2 : w5.cell? ⟨B, 2, none⟩ = some (.int .i64 st) := hE5.cell 2; have x3 : w5.cell? ⟨B, 3, none⟩ = some (.slice af lf.length kf) := hE5.cell 3; have x4 : w5.cell? ⟨B, 4, none⟩ = some (S body) := hE5.cell 4; have x5 : w5.cell? ⟨B, 5, none⟩ = some (.int .i64 asked) := hE5.cell 5; have x6 : w5.cell? ⟨B, 6, none⟩ = some (.int .i64 came) := hE5.cell 6)
          have hcost := refCost_any ⟨key, .slice ap lp.length kp, st, .slice af lf.length kf, body, asked, came⟩ lp lf w5 ((hp.below hw5).mono (by omega)) ((hf.below hw5).mono (by omega)) (by show key.length ≤ _; omega) (by show body.length ≤ _; omega) (by omega) (by omega)
          obtain ⟨C0, eC⟩ : ∃ C0, C0 = costF ⟨key, .slice ap lp.length kp, st, .slice af lf.length kf, body, asked, came⟩ lp lf := ⟨_, rfl⟩
          have hC0 : C0 ≤ 1048576 := by rw [eC]; exact hc
          rw [← eC] at hcost
          have hkeep : Keep [nd] nd key 1 C0 := ⟨by simp, by rw [hnx]; rfl, by intro n hn _; simpa using hn, by intro n hn; rw [List.mem_singleton.1 hn, hnx]; exact Int.le_refl _, by rw [eC]; show nd.x.cost + 0 ≤ _; rw [hnx]; exact Nat.le_refl _⟩
          clear eC hc
          have t1 : decide (1048576 < C0) = false := by simp; omega
          have t1i : decide ((1048576 : Int) < (C0 : Int)) = false := by simp; omega
          go_wp2_with fail
          refine hcost.mono ?_
          rintro e w6 ⟨rfl, hb6⟩
          have hE6 := hE5.on hb6
          have hs6 := hs5.below hb6
          have hw6 : Below B w w6 := hw5.trans (hb6.mono (by omega))
          have hD6 := hD5.below (hb6.mono (Nat.le_of_lt hR5))
          have hR6 : R < w6.heap.size := hs6.rlt
          clear x0 x1 x2 x3 x4 x5 x6 hb6 hE5 hs5 hw5 hD5 hR5 hcost
          go_wp2
          go_loopw [11, 12] (fun c i wr => ∃ (j C : Nat) (last : Int) (l : List Nd), c = .int .i64 (C : Nat) ∧ i = .int .i64 j ∧ 1 ≤ j ∧ j ≤ k + 1 ∧ C ≤ 1048576 ∧ Sh R R wr (R + 2) R (R + 1) 1048576 last l ∧ Keep l nd key last C ∧ 1 ≤ last ∧ last ≤ (j : Int) ∧ Below R w6 wr) (fun _ i _ => k + 1 - (intOf i).toNat)
          case atStart => exact ⟨1, C0, 1, [nd], rfl, rfl, Nat.le_refl _, by omega, hC0, hs6, hkeep, Int.le_refl _, Int.le_refl _, Below.refl _ _⟩
          case round =>
            obtain ⟨j, C, last, l, rfl, rfl, hj1, hj2, hC, hs, hke, hla, hla2, hbr⟩ := hrel
            have hEr := hE6.below hbr hB3
            have hwr : Below B w wr := hw6.trans (hbr.mono (Nat.le_of_lt hB3))
            have hDr := hD6.below hbr
            have hRr : R < wr.heap.size := hs.rlt
            have hid1 : nd.x.id = 1 := by rw [hnx]; rfl
            obtain ⟨wo, rfl⟩ : ∃ wo : World, wo = wr := ⟨_, rfl⟩
            by_cases hlt : j < k + 1
            · obtain ⟨b, off, rfl, hbb, c0, c1, c2, c3, c4, c5, c6, c7, c8, c9⟩ := hDr.at j (by omega)
              have hdd := hDr.2 (L[j]'(by omega)) (List.getElem_mem _)
              have hdS := HSm.out (L[j]'(by omega)) (List.getElem_mem _)
              obtain ⟨d, ed⟩ : ∃ d, d = L[j]'(by omega) := ⟨_, rfl⟩
              rw [← ed] at c0 c1 c2 c3 c4 c5 c6 c7 c8 c9 hdd hdS
              clear ed
              obtain ⟨kind, num, ⟨xkey, xvp, xst, xvf, xbody, xa, xc⟩, xvl, xlp, xlf, xll⟩ := d
              obtain ⟨axp, kxp, hxp, -⟩ := hdd.1.form
              obtain ⟨axf, kxf, hxf, -⟩ := hdd.2.1.form
              simp only at c2 c3 c4 c5 c6 c7 c8 hxp hxf
              subst hxp hxf
              have hxp : Fs R wo (.slice axp xlp.length kxp) xlp := hdd.1
              have hxf : Fs R wo (.slice axf xlf.length kxf) xlf := hdd.2.1
              have r1 : xkey.length ≤ 65536 := hdS.key
              have r2 : xbody.length ≤ 2097152 := hdS.body
              have r3 : fsum xlp ≤ 551600 := hdS.sum
              have r4 : fsum xlf ≤ 131072 := hdS.lf
              have d3 : wo.cell? ⟨b, off + j * 10 + 2 + 1, none⟩ = some (.slice axp xlp.length kxp) := c3
              have d4 : wo.cell? ⟨b, off + j * 10 + 2 + 2, none⟩ = some (.int .i64 xst) := c4
              have d5 : wo.cell? ⟨b, off + j * 10 + 2 + 3, none⟩ = some (.slice axf xlf.length kxf) := c5
              have d6 : wo.cell? ⟨b, off + j * 10 + 2 + 4, none⟩ = some (S xbody) := c6
              have d7 : wo.cell? ⟨b, off + j * 10 + 2 + 5, none⟩ = some (.int .i64 xa) := c7
              have d8 : wo.cell? ⟨b, off + j * 10 + 2 + 6, none⟩ = some (.int .i64 xc) := c8
              obtain ⟨wx, ex⟩ : ∃ wx : World, wx = wo.alloc (.cells #[S xkey, .slice axp xlp.length kxp, .int .i64 xst, .slice axf xlf.length kxf, S xbody, .int .i64 xa, .int .i64 xc] 28) := ⟨_, rfl⟩
              obtain ⟨X, eX⟩ : ∃ X, X = wo.heap.size := ⟨_, rfl⟩
              have hX : Blk wx X 28 #[S xkey, .slice axp xlp.length kxp, .int .i64 xst, .slice axf xlf.length kxf, S xbody, .int .i64 xa, .int .i64 xc] := by rw [ex, eX]; exact Blk.new _ _ _
              have hbx : Below wo.heap.size wo wx := by rw [ex]; exact (Below.refl _ _).alloc (Nat.le_refl _) _
              have hEx := hEr.on hbx
              have hsx := hs.below hbx
              have hwx : Below B w wx := hwr.trans (hbx.mono (by omega))
              have hRx : R < wx.heap.size := hsx.rlt
              have hRX : Below R wo wx := hbx.mono (Nat.le_of_lt hRr)
              have HW := Lib.hid ex
              have HX := Lib.hid eX
              clear ex eX hbx hdd hdS
              go_upto_region 23 with fail
              rw [← HX.out, ← HW.out]
              clear HX HW c0 c1 c2 c3 c4 c5 c6 c7 c8 c9 d3 d4 d5 d6 d7 d8
              (have x0 : wx.cell? ⟨X, 0, none⟩ = some (S xkey) := hX.cell 0; have x1 : wx.cell? ⟨X, 1, none⟩ = some (.slice axp xlp.length kxp) := hX.cell 1; have x2 : wx.cell? ⟨X, 2, none⟩ = some (.int .i64 xst) := hX.cell 2; have x3 : wx.cell? ⟨X, 3, none⟩ = some (.slice axf xlf.length kxf) := hX.cell 3; have x4 : wx.cell? ⟨X, 4, none⟩ = some (S xbody) := hX.cell 4; have x5 : wx.cell? ⟨X, 5, none⟩ = some (.int .i64 xa) := hX.cell 5; have x6 : wx.cell? ⟨X, 6, none⟩ = some (.int .i64 xc) := hX.cell 6)
              have hcost := refCost_any ⟨xkey, .slice axp xlp.length kxp, xst, .slice axf xlf.length kxf, xbody, xa, xc⟩ xlp xlf wx ((hxp.below hRX).mono (Nat.le_of_lt hRx)) ((hxf.below hRX).mono (Nat.le_of_lt hRx)) (by show xkey.length ≤ _; omega) (by show xbody.length ≤ _; omega) (by omega) (by omega)
              have hcb : costF ⟨xkey, .slice axp xlp.length kxp, xst, .slice axf xlf.length kxf, xbody, xa, xc⟩ xlp xlf ≤ 2900000 := by show 64 + xkey.length + xbody.length + fsum xlf + fsum xlp ≤ _; omega
              obtain ⟨cx, ecx⟩ : ∃ cx, cx = costF ⟨xkey, .slice axp xlp.length kxp, xst, .slice axf xlf.length kxf, xbody, xa, xc⟩ xlp xlf := ⟨_, rfl⟩
              rw [← ecx] at hcost hcb
              have HCX := Lib.hid ecx
              clear ecx
              go_wp2_with fail
              refine hcost.mono ?_
              rintro e wy ⟨rfl, hby⟩
              have hEy := hEx.on hby
              have hXy := hX.on hby
              have hsy := hsx.below hby
              have hwy : Below B w wy := hwx.trans (hby.mono (by omega))
              have hRY : Below R wo wy := hRX.trans (hby.mono (Nat.le_of_lt hRx))
              have hRy : R < wy.heap.size := hsy.rlt
              clear x0 x1 x2 x3 x4 x5 x6 hcost hX hEx hsx hwx hRX hRx hby hEr hs hwr hRr
              by_cases hgt : C + cx ≤ 1048576
              · have t3 : decide ((1048576 : Int) < (C : Int) + (cx : Int)) = false := by simp; omega
                have t4 : decide (1048576 < C + cx) = false := by simp; omega
                (have x0 : wy.cell? ⟨X, 0, none⟩ = some (S xkey) := hXy.cell 0; have x1 : wy.cell? ⟨X, 1, none⟩ = some (.slice axp xlp.length kxp) := hXy.cell 1; have x2 : wy.cell? ⟨X, 2, none⟩ = some (.int .i64 xst) := hXy.cell 2; have x3 : wy.cell? ⟨X, 3, none⟩ = some (.slice axf xlf.length kxf) := hXy.cell 3; have x4 : wy.cell? ⟨X, 4, none⟩ = some (S xbody) := hXy.cell 4; have x5 : wy.cell? ⟨X, 5, none⟩ = some (.int .i64 xa) := hXy.cell 5; have x6 : wy.cell? ⟨X, 6, none⟩ = some (.int .i64 xc) := hXy.cell 6)
                have y0 : wy.cell? ⟨B, 0, none⟩ = some (S key) := hEy.cell 0
                by_cases hk : xkey = key
                · have hr : (xkey == key) = true := by simp [hk]
                  clear hk
                  go_wp2
                  go_roundw
                  case rel => exact ⟨j + 1, C + cx, last, l, by go_num, by go_num, by omega, by omega, hgt, hsy, hke.more (by omega), hla, by omega, hbr.trans hRY⟩
                  case measure => simp [intOf]; omega
                · have hr : (xkey == key) = false := by simp [hk]
                  have hPut := Put_any R R (R + 2) R (R + 1) 1048576 last l ⟨xkey, .slice axp xlp.length kxp, xst, .slice axf xlf.length kxf, xbody, xa, xc⟩ xlp xlf wy hsy (Nat.le_of_lt hRy) (Nat.le_of_lt hRy) (fun w' hb => (hxp.below (hRY.trans (hb.below hsy.base (Nat.le_of_lt hRy)))).mono (Nat.le_trans (Nat.le_of_lt hRy) hb.size)) (fun w' hb => (hxf.below (hRY.trans (hb.below hsy.base (Nat.le_of_lt hRy)))).mono (Nat.le_trans (Nat.le_of_lt hRy) hb.size)) (by show xkey.length ≤ _; omega) (by show xbody.length ≤ _; omega) (by omega) (by omega) hke.ids (by omega) 1048576 rfl (by rw [← HCX.out]; omega)
                  have HKP := Lib.hid (fun (nd' : Nd) (hx : nd'.x = It.of (last + 1) ⟨xkey, .slice axp xlp.length kxp, xst, .slice axf xlf.length kxf, xbody, xa, xc⟩ xlp xlf) => hke.put (q := ⟨xkey, .slice axp xlp.length kxp, xst, .slice axf xlf.length kxf, xbody, xa, xc⟩) (lp := xlp) (lf := xlf) hk (M := 1048576) (by rw [← HCX.out]; exact hgt) hx)
                  rw [← HCX.out] at HKP
                  clear hk
                  go_wp2_with fail
                  refine hPut.mono ?_
                  rintro e w7 ⟨rfl, nd', hnx', -, hs7, hb7⟩
                  obtain ⟨hroom, hke7⟩ := HKP.out nd' hnx'
                  rw [← HCX.out, hroom] at hs7
                  obtain ⟨l7, el7⟩ : ∃ l7, l7 = l.filter (fun n => !alikeP xkey xlp n) ++ [nd'] := ⟨_, rfl⟩
                  rw [← el7] at hs7 hke7
                  have hE7 := hEy.but hb7 (fun hk => by have := hsy.base B hk; omega)
                  have hRy7 : Below R wy w7 := hb7.below hsy.base (Nat.le_of_lt hRy)
                  have hw7 : Below B w w7 := hwy.trans (hRy7.mono (Nat.le_of_lt hB3))
                  have hR7 : R < w7.heap.size := hs7.rlt
                  obtain ⟨pa, pb, hab⟩ := List.append_of_mem hke7.mem
                  have hs7b : Sh R R w7 (R + 2) R (R + 1) 1048576 (last + 1) (pa ++ nd :: pb) := hab ▸ hs7
                  have hAt := At_some R R (R + 2) R (R + 1) 1048576 (last + 1) pa pb nd w7 hs7b (by rw [hid1]; decide)
                  rw [hid1] at hAt
                  clear x0 x1 x2 x3 x4 x5 x6 y0 hPut HKP hroom el7 hab hs7b hnx' hb7 hEy hsy hwy
                  go_wp2_with fail
                  refine hAt.mono ?_
                  rintro e w8 ⟨v, rfl, hret, hb8⟩
                  have hret : RetE ⟨1, key, lp, st, lf, body, asked, came⟩ w7.heap.size v w8 := by rw [hnx] at hret; exact hret
                  obtain ⟨vpy, vfy, rfl, o1, o2⟩ := hret
                  obtain ⟨apy, kpy, rfl, -⟩ := (Fs.own o1).form
                  obtain ⟨afy, kfy, rfl, -⟩ := (Fs.own o2).form
                  simp only at o1 o2 ⊢
                  obtain ⟨w9, e9⟩ : ∃ w9 : World, w9 = w8.alloc (.cells #[S key, .slice apy lp.length kpy, .int .i64 st, .slice afy lf.length kfy, S body, .int .i64 asked, .int .i64 came] 28) := ⟨_, rfl⟩
                  obtain ⟨Y, eY⟩ : ∃ Y, Y = w8.heap.size := ⟨_, rfl⟩
                  have hY9 : Blk w9 Y 28 #[S key, .slice apy lp.length kpy, .int .i64 st, .slice afy lf.length kfy, S body, .int .i64 asked, .int .i64 came] := by rw [e9, eY]; exact Blk.new _ _ _
                  have hb79 : Below w7.heap.size w7 w9 := by rw [e9]; exact hb8.alloc hb8.size _
                  have oP : w9.ownsRow w7.heap.size 47 3 (.slice apy lp.length kpy) lp.length (fcells lp) := by rw [e9]; exact o1.alloc _
                  have oF : w9.ownsRow w7.heap.size 45 3 (.slice afy lf.length kfy) lf.length (fcells lf) := by rw [e9]; exact o2.alloc _
                  have hE9 := hE7.on hb79
                  have hs9 := hs7.below hb79
                  have hw9 : Below B w w9 := hw7.trans (hb79.mono (by omega))
                  have hR9 : R < w9.heap.size := hs9.rlt
                  have hRw9 : Below R w6 w9 := (hbr.trans hRY).trans (hRy7.trans (hb79.mono (Nat.le_of_lt hR7)))
                  have HW := Lib.hid e9
                  have HY := Lib.hid eY
                  have hSm := refSame_eq ⟨key, .slice apy lp.length kpy, st, .slice afy lf.length kfy, body, asked, came⟩ (.slice ap lp.length kp) (.slice af lf.length kf) lp lf w9 (Fs.own oP) (Fs.own oF) ((hp.below hw9).mono (by omega)) ((hf.below hw9).mono (by omega))
                  clear e9 eY hAt hb8 o1 o2 hb79 hE7 hs7 hw7 hR7 hRy7 hRY hbr oP oF
                  go_upto_region 29 with fail
                  rw [← HY.out, ← HW.out]
                  clear HY HW
                  (have x0 : w9.cell? ⟨Y, 0, none⟩ = some (S key) := hY9.cell 0; have x1 : w9.cell? ⟨Y, 1, none⟩ = some (.slice apy lp.length kpy) := hY9.cell 1; have x2 : w9.cell? ⟨Y, 2, none⟩ = some (.int .i64 st) := hY9.cell 2; have x3 : w9.cell? ⟨Y, 3, none⟩ = some (.slice afy lf.length kfy) := hY9.cell 3; have x4 : w9.cell? ⟨Y, 4, none⟩ = some (S body) := hY9.cell 4; have x5 : w9.cell? ⟨Y, 5, none⟩ = some (.int .i64 asked) := hY9.cell 5; have x6 : w9.cell? ⟨Y, 6, none⟩ = some (.int .i64 came) := hY9.cell 6)
                  (have y0 : w9.cell? ⟨B, 0, none⟩ = some (S key) := hE9.cell 0; have y1 : w9.cell? ⟨B, 1, none⟩ = some (.slice ap lp.length kp) := hE9.cell 1; have y2 : w9.cell? ⟨B, 2, none⟩ = some (.int .i64 st) := hE9.cell 2; have y3 : w9.cell? ⟨B, 3, none⟩ = some (.slice af lf.length kf) := hE9.cell 3; have y4 : w9.cell? ⟨B, 4, none⟩ = some (S body) := hE9.cell 4; have y5 : w9.cell? ⟨B, 5, none⟩ = some (.int .i64 asked) := hE9.cell 5; have y6 : w9.cell? ⟨B, 6, none⟩ = some (.int .i64 came) := hE9.cell 6)
                  go_wp2_with fail
                  refine hSm.mono ?_
                  rintro e w10 ⟨rfl, hb10⟩
                  have hs10 := hs9.below hb10
                  go_wp2
                  go_roundw
                  case rel => exact ⟨j + 1, C + cx, last + 1, l7, by go_num, by go_num, by omega, by omega, hgt, hs10, hke7, by omega, by omega, hRw9.trans (hb10.mono (Nat.le_of_lt hR9))⟩
                  case measure => simp [intOf]; omega
              · have t3 : decide ((1048576 : Int) < (C : Int) + (cx : Int)) = true := by simp; omega
                have t4 : decide (1048576 < C + cx) = true := by simp; omega
                go_wp2
                go_ret
                exact ⟨rfl, by rw [← HB.out]; exact hwy⟩
            · obtain rfl : j = k + 1 := by omega
              have hg := hke.gone hs.ids
              obtain ⟨g1, g2, g3, g4⟩ := hg
              have hLen := Len_any R R (R + 2) R (R + 1) 1048576 last l wo hs
              obtain ⟨l2, el2⟩ : ∃ l2, l2 = l.filter (fun n => !(n.x.key == key)) := ⟨_, rfl⟩
              rw [← el2] at g2 g3 g4
              have hm2 : l2.length ≤ 16384 := by have := hs.length_le; omega
              obtain ⟨m2, em2⟩ : ∃ m2, m2 = l2.length := ⟨_, rfl⟩
              rw [← em2] at g2 hm2
              rw [← g2] at hLen
              have HM := Lib.hid em2
              clear em2 g2
              obtain ⟨pa, pb, hab⟩ := List.append_of_mem hke.mem
              have hsb : Sh R R wo (R + 2) R (R + 1) 1048576 last (pa ++ nd :: pb) := hab ▸ hs
              have hAt := At_some R R (R + 2) R (R + 1) 1048576 last pa pb nd wo hsb (by rw [hid1]; decide)
              rw [hid1] at hAt
              clear hab hsb hlt hbr hDr
              go_wp2_with fail
              refine hLen.mono ?_
              rintro e wob ⟨rfl, ewo⟩
              rw [ewo]
              clear ewo wob
              go_wp2_with fail
              refine hAt.mono ?_
              rintro e w8 ⟨v, rfl, hret, hb8⟩
              have hret : RetE ⟨1, key, lp, st, lf, body, asked, came⟩ wo.heap.size v w8 := by rw [hnx] at hret; exact hret
              obtain ⟨vpy, vfy, rfl, o1, o2⟩ := hret
              obtain ⟨apy, kpy, rfl, -⟩ := (Fs.own o1).form
              obtain ⟨afy, kfy, rfl, -⟩ := (Fs.own o2).form
              simp only
              clear o1 o2
              obtain ⟨w9, e9⟩ : ∃ w9 : World, w9 = w8.alloc (.cells #[S key, .slice apy lp.length kpy, .int .i64 st, .slice afy lf.length kfy, S body, .int .i64 asked, .int .i64 came] 28) := ⟨_, rfl⟩
              have hb9 : Below wo.heap.size wo w9 := by rw [e9]; exact hb8.alloc hb8.size _
              have hE9 := hEr.on hb9
              have hs9 := hs.below hb9
              have hw9 : Below B w w9 := hwr.trans (hb9.mono (by omega))
              have HW := Lib.hid e9
              clear e9 hb8 hb9 hEr hs hwr hAt hLen
              go_upto_region 33 with fail
              rw [← HW.out]
              clear HW
              have y0 : w9.cell? ⟨B, 0, none⟩ = some (S key) := hE9.cell 0
              have hFg := Forget_any R R (R + 2) R (R + 1) 1048576 last l w9 hs9 key
              rw [g1, ← el2] at hFg
              go_wp2_with fail
              refine hFg.mono ?_
              rintro e w10 ⟨rfl, hs10, hb10⟩
              have hE10 := hE9.but hb10 (fun hk => by have := hs9.base B hk; omega)
              have hw10 : Below B w w10 := hw9.trans (hb10.below (fun k hk => by have := hs9.base k hk; omega) (by have := hE9.lt; omega))
              have hAn := At_none R R (R + 2) R (R + 1) 1048576 last l2 w10 hs10 1 (fun n hn => by have := g3 n hn; rw [hid1] at this; exact this) (by decide)
              clear y0 hFg hb10 hE9 hs9 hw9 g3 el2
              go_wp2_with fail
              refine hAn.mono ?_
              rintro e w11 ⟨rfl, hb11⟩
              obtain ⟨w12, e12⟩ : ∃ w12 : World, w12 = w11.alloc (.cells Ez 28) := ⟨_, rfl⟩
              have hb12 : Below w10.heap.size w10 w12 := by rw [e12]; exact hb11.alloc hb11.size _
              have hE12 := hE10.on hb12
              have hs12 := hs10.below hb12
              have hw12 : Below B w w12 := hw10.trans (hb12.mono (by have := hE10.lt; omega))
              have HW := Lib.hid e12
              clear e12 hb11 hb12 hE10 hs10 hw10 hAn
              go_upto_region 35 with fail
              rw [← HW.out]
              clear HW
              have y0 : w12.cell? ⟨B, 0, none⟩ = some (S key) := hE12.cell 0
              have hLen := Len_any R R (R + 2) R (R + 1) 1048576 last l2 w12 hs12
              have hFg := Forget_any R R (R + 2) R (R + 1) 1048576 last l2 w12 hs12 key
              rw [g4] at hFg
              rw [← HM.out] at hLen
              clear g1 g4
              go_wp2_with fail
              refine hLen.mono ?_
              rintro e wob ⟨rfl, ewo⟩
              rw [ewo]
              clear ewo wob
              go_wp2_with fail
              refine hFg.mono ?_
              rintro e w13 ⟨rfl, hs13, hb13⟩
              go_wp2
              go_ret
              exact ⟨rfl, by rw [← HB.out]; exact hw12.trans (hb13.below (fun k hk => by have := hs12.base k hk; omega) (by have := hE12.lt; omega))⟩
        · have hPut := Put_long R R (R + 2) R (R + 1) 1048576 0 [] ⟨key, .slice ap lp.length kp, st, .slice af lf.length kf, body, asked, came⟩ lp lf w4 hs4 (fun w' hb => (hp.below (hst4 w' hb)).mono (hst4z w' hb)) (fun w' hb => (hf.below (hst4 w' hb)).mono (hst4z w' hb)) (by show key.length ≤ _; omega) (by show body.length ≤ _; omega) (by omega) (by omega) (by omega) (by show (1048576 : Int) < ((64 + key.length + body.length + fsum lf + fsum lp : Nat) : Int); omega)
          go_wp2_with fail
          refine hPut.mono ?_
          rintro e w5 ⟨rfl, hs5, hb5⟩
          have hE5 := hE4.but hb5 (fun hk => by have := hs4.base B hk; omega)
          have hw5 : Below B w w5 := hst4 w5 hb5
          have hB5 : B < w5.heap.size := hE5.lt
          clear x0 x1 x2 x3 x4 x5 x6
          (have x0 : w5.cell? ⟨B, 0, none⟩ = some (S key) := hE5.cell 0; have x1 : w5.cell? ⟨B, 1, none⟩ = some (.slice ap lp.length kp) := hE5.cell 1; have x2 : w5.cell? ⟨B, 2, none⟩ = some (.int .i64 st) := hE5.cell 2; have x3 : w5.cell? ⟨B, 3, none⟩ = some (.slice af lf.length kf) := hE5.cell 3; have x4 : w5.cell? ⟨B, 4, none⟩ = some (S body) := hE5.cell 4; have x5 : w5.cell? ⟨B, 5, none⟩ = some (.int .i64 asked) := hE5.cell 5; have x6 : w5.cell? ⟨B, 6, none⟩ = some (.int .i64 came) := hE5.cell 6)
          have hcost := refCost_any ⟨key, .slice ap lp.length kp, st, .slice af lf.length kf, body, asked, came⟩ lp lf w5 ((hp.below hw5).mono (Nat.le_of_lt hB5)) ((hf.below hw5).mono (Nat.le_of_lt hB5)) (by show key.length ≤ _; omega) (by show body.length ≤ _; omega) (by omega) (by omega)
          have hcf : costF ⟨key, .slice ap lp.length kp, st, .slice af lf.length kf, body, asked, came⟩ lp lf = 64 + key.length + body.length + fsum lf + fsum lp := rfl
          rw [hcf] at hcost
          clear hcf
          obtain ⟨c, ec⟩ : ∃ c, c = 64 + key.length + body.length + fsum lf + fsum lp := ⟨_, rfl⟩
          rw [← ec] at hcost hc
          have hcd : decide ((1048576 : Int) < (c : Int)) = true := by simp; omega
          clear ec
          go_wp2_with fail
          refine hcost.mono ?_
          rintro e w6 ⟨rfl, hb6⟩
          go_wp2
          go_ret
          exact ⟨rfl, by rw [← HB.out]; exact hw5.trans (hb6.mono (Nat.le_of_lt hB5))⟩
    ·
      have hdec : decide (k < others.length) = false := by simp; omega
      obtain ⟨w2, rfl⟩ : ∃ w2 : World, w2 = wr := ⟨_, rfl⟩
      have hE2 := hEa.below hbr hBG
      clear hEa hba
      have hB2 : B < w2.heap.size := hE2.lt
      have hL : (⟨0, 0, ⟨key, .slice ap lp.length kp, st, .slice af lf.length kf, body, asked, came⟩, .slice none 0 0, lp, lf, []⟩ :: (others.take k).map Dof : List Dv).length = k + 1 := by
        rw [List.length_cons, List.length_map, List.length_take]
        omega
      obtain ⟨L, eL⟩ : ∃ L : List Dv, L = ⟨0, 0, ⟨key, .slice ap lp.length kp, st, .slice af lf.length kf, body, asked, came⟩, .slice none 0 0, lp, lf, []⟩ :: (others.take k).map Dof := ⟨_, rfl⟩
      have hd0 : (⟨0, 0, ⟨key, .slice ap lp.length kp, st, .slice af lf.length kf, body, asked, came⟩, .slice none 0 0, lp, lf, []⟩ : Dv) ∈ L := by rw [eL]; simp
      have hLok : ∀ d ∈ L, d.Ok := by
        rw [eL]
        intro d hd
        rcases List.mem_cons.1 hd with rfl | hd
        · exact hok
        · obtain ⟨x, hx, rfl⟩ := List.mem_map.1 hd
          exact Dof_ok (hoks x (List.mem_of_mem_take hx))
      have hD2 : Ds w2.heap.size w2 (.slice av (k + 1) cv) L := by
        refine ⟨?_, ?_⟩
        · rw [eL, hL]
          exact Rd.own hown
        · rw [eL]
          intro d hd
          rcases List.mem_cons.1 hd with rfl | hd
          · exact ⟨(hp.below hwr).mono (Nat.le_of_lt hB2), (hf.below hwr).mono (Nat.le_of_lt hB2), Rd.nil _ _ _⟩
          · obtain ⟨x, hx, rfl⟩ := List.mem_map.1 hd
            have := hor.2 x (List.mem_of_mem_take hx)
            exact ⟨this.1.mono (Nat.le_of_lt hB2), this.2.mono (Nat.le_of_lt hB2), Rd.nil _ _ _⟩
      have hLz : ∀ d ∈ L, d.vl = .slice none 0 0 ∧ d.ll = [] := by
        rw [eL]
        intro d hd
        rcases List.mem_cons.1 hd with rfl | hd
        · exact ⟨rfl, rfl⟩
        · obtain ⟨x, hx, rfl⟩ := List.mem_map.1 hd
          exact ⟨rfl, rfl⟩
      rw [← eL] at hL
      have HLZ := Lib.hid hLz
      clear eL hown hbr hor hok hoks hrow hGa hLz
      go_wp2_with fail
      refine (few19_any L _ w2 hD2 hLok).mono ?_
      rintro e w3 ⟨b, rfl, hsm, hb3⟩
      have HSM := Lib.hid hsm
      clear hsm
      have hE3 := hE2.on hb3
      have hw3 : Below B w w3 := hwr.trans (hb3.mono (Nat.le_of_lt hB2))
      have hD3 := (hD2.below hb3).mono hb3.size
      have hB3 : B < w3.heap.size := hE3.lt
      clear hE2 hD2 hB2 hb3 hwr hLok
      cases b with
      | false =>
        go_wp2
        go_ret
        exact ⟨rfl, by rw [← HB.out]; exact hw3⟩
      | true =>
      have HSm : Hid (∀ d ∈ L, Small d) := fun d hd => HSM.out rfl d (by rw [List.take_of_length_le (by omega)]; exact hd)
      have hS := HSm.out _ hd0
      have q1 : key.length ≤ 65536 := hS.key
      have q2 : body.length ≤ 2097152 := hS.body
      have q3 : fsum lp ≤ 551600 := hS.sum
      have q4 : fsum lf ≤ 131072 := hS.lf
      clear hS hd0 HSM
      have HN := New_any 1048576 (by omega) (by omega) w3
      go_wp2_with fail
      refine HN.mono ?_
      rintro e w4 ⟨rfl, hb4, n1, n2, n3⟩
      have hs4 : Sh w3.heap.size w3.heap.size w4 (w3.heap.size + 2) w3.heap.size (w3.heap.size + 1) 1048576 0 [] := sh_new n1 n2 n3 (Nat.le_refl _) (by omega) (by omega)
      obtain ⟨R, eR⟩ : ∃ R, R = w3.heap.size := ⟨_, rfl⟩
      rw [← eR] at hs4 hB3 hb4 hD3 ⊢
      have hE4 := hE3.below hb4 hB3
      have hw4 : Below B w w4 := hw3.trans (hb4.mono (Nat.le_of_lt hB3))
      have hD4 := hD3.below hb4
      have hR4 : R < w4.heap.size := hs4.rlt
      have hfb : ∀ l : List Nd, ∀ w' last, Sh R R w' (R + 2) R (R + 1) 1048576 last l → ∀ k, Foot (R + 2) R (R + 1) l k → R ≤ k := fun l w' last h => h.base
      clear HN n1 n2 n3 hb4 hE3 hw3 hD3 eR
      (have x0 : w4.cell? ⟨B, 0, none⟩ = some (S key) := hE4.cell 0; have x1 : w4.cell? ⟨B, 1, none⟩ = some (.slice ap lp.length kp) := hE4.cell 1; have x2 : w4.cell? ⟨B, 2, none⟩ = some (.int .i64 st) := hE4.cell 2; have x3 : w4.cell? ⟨B, 3, none⟩ = some (.slice af lf.length kf) := hE4.cell 3; have x4 : w4.cell? ⟨B, 4, none⟩ = some (S body) := hE4.cell 4; have x5 : w4.cell? ⟨B, 5, none⟩ = some (.int .i64 asked) := hE4.cell 5; have x6 : w4.cell? ⟨B, 6, none⟩ = some (.int .i64 came) := hE4.cell 6)
      have hst4 : ∀ w', But (Foot (R + 2) R (R + 1) []) w4 w' → Below B w w' := fun w' hb => hw4.trans (hb.below (fun k hk => by have := hs4.base k hk; omega) (by omega))
      have hst4z : ∀ w', But (Foot (R + 2) R (R + 1) []) w4 w' → B ≤ w'.heap.size := fun w' hb => by have := hb.size; omega
      by_cases hc : 64 + key.length + body.length + fsum lf + fsum lp ≤ 1048576
      · have hPut := Put_any R R (R + 2) R (R + 1) 1048576 0 [] ⟨key, .slice ap lp.length kp, st, .slice af lf.length kf, body, asked, came⟩ lp lf w4 hs4 (by omega) (by omega) (fun w' hb => (hp.below (hst4 w' hb)).mono (hst4z w' hb)) (fun w' hb => (hf.below (hst4 w' hb)).mono (hst4z w' hb)) (by show key.length ≤ _; omega) (by show body.length ≤ _; omega) (by omega) (by omega) (by simp) (by omega) 1048576 rfl hc
        go_wp2_with fail
        refine hPut.mono ?_
        rintro e w5 ⟨rfl, nd, hnx, hnb, hs5, hb5⟩
        have hs5 : Sh R R w5 (R + 2) R (R + 1) 1048576 1 [nd] := hs5
        have hnx : nd.x = It.of 1 ⟨key, .slice ap lp.length kp, st, .slice af lf.length kf, body, asked, came⟩ lp lf := hnx
        have hE5 := hE4.but hb5 (fun hk => by have := hs4.base B hk; omega)
        have hR45 : Below R w4 w5 := hb5.below hs4.base (Nat.le_of_lt hR4)
        have hw5 : Below B w w5 := hw4.trans (hR45.mono (Nat.le_of_lt hB3))
        have hD5 := hD4.below hR45
        have hR5 : R < w5.heap.size := hs5.rlt
        clear x0 x1 x2 x3 x4 x5 x6 hPut hb5 hst4 hst4z hE4 hs4 hw4 hD4 hR4 hR45 hnb
        (have x0 : w5.cell? ⟨B, 0, none⟩ = some (S key) := hE5.cell 0; have x1 : w5.cell? ⟨B, 1, none⟩ = some (.slice ap lp.length kp) := hE5.cell 1; have x2 : w5.cell? ⟨B, 2, none⟩ = some (.int .i64 st) := hE5.cell 2; have x3 : w5.cell? ⟨B, 3, none⟩ = some (.slice af lf.length kf) := hE5.cell 3; have x4 : w5.cell? ⟨B, 4, none⟩ = some (S body) := hE5.cell 4; have x5 : w5.cell? ⟨B, 5, none⟩ = some (.int .i64 asked) := hE5.cell 5; have x6 : w5.cell? ⟨B, 6, none⟩ = some (.int .i64 came) := hE5.cell 6)
        have hcost := refCost_any ⟨key, .slice ap lp.length kp, st, .slice af lf.length kf, body, asked, came⟩ lp lf w5 ((hp.below hw5).mono (by omega)) ((hf.below hw5).mono (by omega)) (by show key.length ≤ _; omega) (by show body.length ≤ _; omega) (by omega) (by omega)
        obtain ⟨C0, eC⟩ : ∃ C0, C0 = costF ⟨key, .slice ap lp.length kp, st, .slice af lf.length kf, body, asked, came⟩ lp lf := ⟨_, rfl⟩
        have hC0 : C0 ≤ 1048576 := by rw [eC]; exact hc
        rw [← eC] at hcost
        have hkeep : Keep [nd] nd key 1 C0 := ⟨by simp, by rw [hnx]; rfl, by intro n hn _; simpa using hn, by intro n hn; rw [List.mem_singleton.1 hn, hnx]; exact Int.le_refl _, by rw [eC]; show nd.x.cost + 0 ≤ _; rw [hnx]; exact Nat.le_refl _⟩
        clear eC hc
        have t1 : decide (1048576 < C0) = false := by simp; omega
        have t1i : decide ((1048576 : Int) < (C0 : Int)) = false := by simp; omega
        go_wp2_with fail
        refine hcost.mono ?_
        rintro e w6 ⟨rfl, hb6⟩
        have hE6 := hE5.on hb6
        have hs6 := hs5.below hb6
        have hw6 : Below B w w6 := hw5.trans (hb6.mono (by omega))
        have hD6 := hD5.below (hb6.mono (Nat.le_of_lt hR5))
        have hR6 : R < w6.heap.size := hs6.rlt
        clear x0 x1 x2 x3 x4 x5 x6 hb6 hE5 hs5 hw5 hD5 hR5 hcost
        go_wp2
        go_loopw [11, 12] (fun c i wr => ∃ (j C : Nat) (last : Int) (l : List Nd), c = .int .i64 (C : Nat) ∧ i = .int .i64 j ∧ 1 ≤ j ∧ j ≤ k + 1 ∧ C ≤ 1048576 ∧ Sh R R wr (R + 2) R (R + 1) 1048576 last l ∧ Keep l nd key last C ∧ 1 ≤ last ∧ last ≤ (j : Int) ∧ Below R w6 wr) (fun _ i _ => k + 1 - (intOf i).toNat)
        case atStart => exact ⟨1, C0, 1, [nd], rfl, rfl, Nat.le_refl _, by omega, hC0, hs6, hkeep, Int.le_refl _, Int.le_refl _, Below.refl _ _⟩
        case round =>
          obtain ⟨j, C, last, l, rfl, rfl, hj1, hj2, hC, hs, hke, hla, hla2, hbr⟩ := hrel
          have hEr := hE6.below hbr hB3
          have hwr : Below B w wr := hw6.trans (hbr.mono (Nat.le_of_lt hB3))
          have hDr := hD6.below hbr
          have hRr : R < wr.heap.size := hs.rlt
          have hid1 : nd.x.id = 1 := by rw [hnx]; rfl
          obtain ⟨wo, rfl⟩ : ∃ wo : World, wo = wr := ⟨_, rfl⟩
          by_cases hlt : j < k + 1
          · obtain ⟨b, off, rfl, hbb, c0, c1, c2, c3, c4, c5, c6, c7, c8, c9⟩ := hDr.at j (by omega)
            have hdd := hDr.2 (L[j]'(by omega)) (List.getElem_mem _)
            have hdS := HSm.out (L[j]'(by omega)) (List.getElem_mem _)
            obtain ⟨d, ed⟩ : ∃ d, d = L[j]'(by omega) := ⟨_, rfl⟩
            rw [← ed] at c0 c1 c2 c3 c4 c5 c6 c7 c8 c9 hdd hdS
            clear ed
            obtain ⟨kind, num, ⟨xkey, xvp, xst, xvf, xbody, xa, xc⟩, xvl, xlp, xlf, xll⟩ := d
            obtain ⟨axp, kxp, hxp, -⟩ := hdd.1.form
            obtain ⟨axf, kxf, hxf, -⟩ := hdd.2.1.form
            simp only at c2 c3 c4 c5 c6 c7 c8 hxp hxf
            subst hxp hxf
            have hxp : Fs R wo (.slice axp xlp.length kxp) xlp := hdd.1
            have hxf : Fs R wo (.slice axf xlf.length kxf) xlf := hdd.2.1
            have r1 : xkey.length ≤ 65536 := hdS.key
            have r2 : xbody.length ≤ 2097152 := hdS.body
            have r3 : fsum xlp ≤ 551600 := hdS.sum
            have r4 : fsum xlf ≤ 131072 := hdS.lf
            have d3 : wo.cell? ⟨b, off + j * 10 + 2 + 1, none⟩ = some (.slice axp xlp.length kxp) := c3
            have d4 : wo.cell? ⟨b, off + j * 10 + 2 + 2, none⟩ = some (.int .i64 xst) := c4
            have d5 : wo.cell? ⟨b, off + j * 10 + 2 + 3, none⟩ = some (.slice axf xlf.length kxf) := c5
            have d6 : wo.cell? ⟨b, off + j * 10 + 2 + 4, none⟩ = some (S xbody) := c6
            have d7 : wo.cell? ⟨b, off + j * 10 + 2 + 5, none⟩ = some (.int .i64 xa) := c7
            have d8 : wo.cell? ⟨b, off + j * 10 + 2 + 6, none⟩ = some (.int .i64 xc) := c8
            obtain ⟨wx, ex⟩ : ∃ wx : World, wx = wo.alloc (.cells #[S xkey, .slice axp xlp.length kxp, .int .i64 xst, .slice axf xlf.length kxf, S xbody, .int .i64 xa, .int .i64 xc] 28) := ⟨_, rfl⟩
            obtain ⟨X, eX⟩ : ∃ X, X = wo.heap.size := ⟨_, rfl⟩
            have hX : Blk wx X 28 #[S xkey, .slice axp xlp.length kxp, .int .i64 xst, .slice axf xlf.length kxf, S xbody, .int .i64 xa, .int .i64 xc] := by rw [ex, eX]; exact Blk.new _ _ _
            have hbx : Below wo.heap.size wo wx := by rw [ex]; exact (Below.refl _ _).alloc (Nat.le_refl _) _
            have hEx := hEr.on hbx
            have hsx := hs.below hbx
            have hwx : Below B w wx := hwr.trans (hbx.mono (by omega))
            have hRx : R < wx.heap.size := hsx.rlt
            have hRX : Below R wo wx := hbx.mono (Nat.le_of_lt hRr)
            have HW := Lib.hid ex
            have HX := Lib.hid eX
            clear ex eX hbx hdd hdS
            go_upto_region 23 with fail
            rw [← HX.out, ← HW.out]
            clear HX HW c0 c1 c2 c3 c4 c5 c6 c7 c8 c9 d3 d4 d5 d6 d7 d8
            (have x0 : wx.cell? ⟨X, 0, none⟩ = some (S xkey) := hX.cell 0; have x1 : wx.cell? ⟨X, 1, none⟩ = some (.slice axp xlp.length kxp) := hX.cell 1; have x2 : wx.cell? ⟨X, 2, none⟩ = some (.int .i64 xst) := hX.cell 2; have x3 : wx.cell? ⟨X, 3, none⟩ = some (.slice axf xlf.length kxf) := hX.cell 3; have x4 : wx.cell? ⟨X, 4, none⟩ = some (S xbody) := hX.cell 4; have x5 : wx.cell? ⟨X, 5, none⟩ = some (.int .i64 xa) := hX.cell 5; have x6 : wx.cell? ⟨X, 6, none⟩ = some (.int .i64 xc) := hX.cell 6)
            have hcost := refCost_any ⟨xkey, .slice axp xlp.length kxp, xst, .slice axf xlf.length kxf, xbody, xa, xc⟩ xlp xlf wx ((hxp.below hRX).mono (Nat.le_of_lt hRx)) ((hxf.below hRX).mono (Nat.le_of_lt hRx)) (by show xkey.length ≤ _; omega) (by show xbody.length ≤ _; omega) (by omega) (by omega)
            have hcb : costF ⟨xkey, .slice axp xlp.length kxp, xst, .slice axf xlf.length kxf, xbody, xa, xc⟩ xlp xlf ≤ 2900000 := by show 64 + xkey.length + xbody.length + fsum xlf + fsum xlp ≤ _; omega
            obtain ⟨cx, ecx⟩ : ∃ cx, cx = costF ⟨xkey, .slice axp xlp.length kxp, xst, .slice axf xlf.length kxf, xbody, xa, xc⟩ xlp xlf := ⟨_, rfl⟩
            rw [← ecx] at hcost hcb
            have HCX := Lib.hid ecx
            clear ecx
            go_wp2_with fail
            refine hcost.mono ?_
            rintro e wy ⟨rfl, hby⟩
            have hEy := hEx.on hby
            have hXy := hX.on hby
            have hsy := hsx.below hby
            have hwy : Below B w wy := hwx.trans (hby.mono (by omega))
            have hRY : Below R wo wy := hRX.trans (hby.mono (Nat.le_of_lt hRx))
            have hRy : R < wy.heap.size := hsy.rlt
            clear x0 x1 x2 x3 x4 x5 x6 hcost hX hEx hsx hwx hRX hRx hby hEr hs hwr hRr
            by_cases hgt : C + cx ≤ 1048576
            · have t3 : decide ((1048576 : Int) < (C : Int) + (cx : Int)) = false := by simp; omega
              have t4 : decide (1048576 < C + cx) = false := by simp; omega
              (have x0 : wy.cell? ⟨X, 0, none⟩ = some (S xkey) := hXy.cell 0; have x1 : wy.cell? ⟨X, 1, none⟩ = some (.slice axp xlp.length kxp) := hXy.cell 1; have x2 : wy.cell? ⟨X, 2, none⟩ = some (.int .i64 xst) := hXy.cell 2; have x3 : wy.cell? ⟨X, 3, none⟩ = some (.slice axf xlf.length kxf) := hXy.cell 3; have x4 : wy.cell? ⟨X, 4, none⟩ = some (S xbody) := hXy.cell 4; have x5 : wy.cell? ⟨X, 5, none⟩ = some (.int .i64 xa) := hXy.cell 5; have x6 : wy.cell? ⟨X, 6, none⟩ = some (.int .i64 xc) := hXy.cell 6)
              have y0 : wy.cell? ⟨B, 0, none⟩ = some (S key) := hEy.cell 0
              by_cases hk : xkey = key
              · have hr : (xkey == key) = true := by simp [hk]
                clear hk
                go_wp2
                go_roundw
                case rel => exact ⟨j + 1, C + cx, last, l, by go_num, by go_num, by omega, by omega, hgt, hsy, hke.more (by omega), hla, by omega, hbr.trans hRY⟩
                case measure => simp [intOf]; omega
              · have hr : (xkey == key) = false := by simp [hk]
                have hPut := Put_any R R (R + 2) R (R + 1) 1048576 last l ⟨xkey, .slice axp xlp.length kxp, xst, .slice axf xlf.length kxf, xbody, xa, xc⟩ xlp xlf wy hsy (Nat.le_of_lt hRy) (Nat.le_of_lt hRy) (fun w' hb => (hxp.below (hRY.trans (hb.below hsy.base (Nat.le_of_lt hRy)))).mono (Nat.le_trans (Nat.le_of_lt hRy) hb.size)) (fun w' hb => (hxf.below (hRY.trans (hb.below hsy.base (Nat.le_of_lt hRy)))).mono (Nat.le_trans (Nat.le_of_lt hRy) hb.size)) (by show xkey.length ≤ _; omega) (by show xbody.length ≤ _; omega) (by omega) (by omega) hke.ids (by omega) 1048576 rfl (by rw [← HCX.out]; omega)
                have HKP := Lib.hid (fun (nd' : Nd) (hx : nd'.x = It.of (last + 1) ⟨xkey, .slice axp xlp.length kxp, xst, .slice axf xlf.length kxf, xbody, xa, xc⟩ xlp xlf) => hke.put (q := ⟨xkey, .slice axp xlp.length kxp, xst, .slice axf xlf.length kxf, xbody, xa, xc⟩) (lp := xlp) (lf := xlf) hk (M := 1048576) (by rw [← HCX.out]; exact hgt) hx)
                rw [← HCX.out] at HKP
                clear hk
                go_wp2_with fail
                refine hPut.mono ?_
                rintro e w7 ⟨rfl, nd', hnx', -, hs7, hb7⟩
                obtain ⟨hroom, hke7⟩ := HKP.out nd' hnx'
                rw [← HCX.out, hroom] at hs7
                obtain ⟨l7, el7⟩ : ∃ l7, l7 = l.filter (fun n => !alikeP xkey xlp n) ++ [nd'] := ⟨_, rfl⟩
                rw [← el7] at hs7 hke7
                have hE7 := hEy.but hb7 (fun hk => by have := hsy.base B hk; omega)
                have hRy7 : Below R wy w7 := hb7.below hsy.base (Nat.le_of_lt hRy)
                have hw7 : Below B w w7 := hwy.trans (hRy7.mono (Nat.le_of_lt hB3))
                have hR7 : R < w7.heap.size := hs7.rlt
                obtain ⟨pa, pb, hab⟩ := List.append_of_mem hke7.mem
                have hs7b : Sh R R w7 (R + 2) R (R + 1) 1048576 (last + 1) (pa ++ nd :: pb) := hab ▸ hs7
                have hAt := At_some R R (R + 2) R (R + 1) 1048576 (last + 1) pa pb nd w7 hs7b (by rw [hid1]; decide)
                rw [hid1] at hAt
                clear x0 x1 x2 x3 x4 x5 x6 y0 hPut HKP hroom el7 hab hs7b hnx' hb7 hEy hsy hwy
                go_wp2_with fail
                refine hAt.mono ?_
                rintro e w8 ⟨v, rfl, hret, hb8⟩
                have hret : RetE ⟨1, key, lp, st, lf, body, asked, came⟩ w7.heap.size v w8 := by rw [hnx] at hret; exact hret
                obtain ⟨vpy, vfy, rfl, o1, o2⟩ := hret
                obtain ⟨apy, kpy, rfl, -⟩ := (Fs.own o1).form
                obtain ⟨afy, kfy, rfl, -⟩ := (Fs.own o2).form
                simp only at o1 o2 ⊢
                obtain ⟨w9, e9⟩ : ∃ w9 : World, w9 = w8.alloc (.cells #[S key, .slice apy lp.length kpy, .int .i64 st, .slice afy lf.length kfy, S body, .int .i64 asked, .int .i64 came] 28) := ⟨_, rfl⟩
                obtain ⟨Y, eY⟩ : ∃ Y, Y = w8.heap.size := ⟨_, rfl⟩
                have hY9 : Blk w9 Y 28 #[S key, .slice apy lp.length kpy, .int .i64 st, .slice afy lf.length kfy, S body, .int .i64 asked, .int .i64 came] := by rw [e9, eY]; exact Blk.new _ _ _
                have hb79 : Below w7.heap.size w7 w9 := by rw [e9]; exact hb8.alloc hb8.size _
                have oP : w9.ownsRow w7.heap.size 47 3 (.slice apy lp.length kpy) lp.length (fcells lp) := by rw [e9]; exact o1.alloc _
                have oF : w9.ownsRow w7.heap.size 45 3 (.slice afy lf.length kfy) lf.length (fcells lf) := by rw [e9]; exact o2.alloc _
                have hE9 := hE7.on hb79
                have hs9 := hs7.below hb79
                have hw9 : Below B w w9 := hw7.trans (hb79.mono (by omega))
                have hR9 : R < w9.heap.size := hs9.rlt
                have hRw9 : Below R w6 w9 := (hbr.trans hRY).trans (hRy7.trans (hb79.mono (Nat.le_of_lt hR7)))
                have HW := Lib.hid e9
                have HY := Lib.hid eY
                have hSm := refSame_eq ⟨key, .slice apy lp.length kpy, st, .slice afy lf.length kfy, body, asked, came⟩ (.slice ap lp.length kp) (.slice af lf.length kf) lp lf w9 (Fs.own oP) (Fs.own oF) ((hp.below hw9).mono (by omega)) ((hf.below hw9).mono (by omega))
                clear e9 eY hAt hb8 o1 o2 hb79 hE7 hs7 hw7 hR7 hRy7 hRY hbr oP oF
                go_upto_region 29 with fail
                rw [← HY.out, ← HW.out]
                clear HY HW
                (have x0 : w9.cell? ⟨Y, 0, none⟩ = some (S key) := hY9.cell 0; have x1 : w9.cell? ⟨Y, 1, none⟩ = some (.slice apy lp.length kpy) := hY9.cell 1; have x2 : w9.cell? ⟨Y, 2, none⟩ = some (.int .i64 st) := hY9.cell 2; have x3 : w9.cell? ⟨Y, 3, none⟩ = some (.slice afy lf.length kfy) := hY9.cell 3; have x4 : w9.cell? ⟨Y, 4, none⟩ = some (S body) := hY9.cell 4; have x5 : w9.cell? ⟨Y, 5, none⟩ = some (.int .i64 asked) := hY9.cell 5; have x6 : w9.cell? ⟨Y, 6, none⟩ = some (.int .i64 came) := hY9.cell 6)
                (have y0 : w9.cell? ⟨B, 0, none⟩ = some (S key) := hE9.cell 0; have y1 : w9.cell? ⟨B, 1, none⟩ = some (.slice ap lp.length kp) := hE9.cell 1; have y2 : w9.cell? ⟨B, 2, none⟩ = some (.int .i64 st) := hE9.cell 2; have y3 : w9.cell? ⟨B, 3, none⟩ = some (.slice af lf.length kf) := hE9.cell 3; have y4 : w9.cell? ⟨B, 4, none⟩ = some (S body) := hE9.cell 4; have y5 : w9.cell? ⟨B, 5, none⟩ = some (.int .i64 asked) := hE9.cell 5; have y6 : w9.cell? ⟨B, 6, none⟩ = some (.int .i64 came) := hE9.cell 6)
                go_wp2_with fail
                refine hSm.mono ?_
                rintro e w10 ⟨rfl, hb10⟩
                have hs10 := hs9.below hb10
                go_wp2
                go_roundw
                case rel => exact ⟨j + 1, C + cx, last + 1, l7, by go_num, by go_num, by omega, by omega, hgt, hs10, hke7, by omega, by omega, hRw9.trans (hb10.mono (Nat.le_of_lt hR9))⟩
                case measure => simp [intOf]; omega
            · have t3 : decide ((1048576 : Int) < (C : Int) + (cx : Int)) = true := by simp; omega
              have t4 : decide (1048576 < C + cx) = true := by simp; omega
              go_wp2
              go_ret
              exact ⟨rfl, by rw [← HB.out]; exact hwy⟩
          · obtain rfl : j = k + 1 := by omega
            have hg := hke.gone hs.ids
            obtain ⟨g1, g2, g3, g4⟩ := hg
            have hLen := Len_any R R (R + 2) R (R + 1) 1048576 last l wo hs
            obtain ⟨l2, el2⟩ : ∃ l2, l2 = l.filter (fun n => !(n.x.key == key)) := ⟨_, rfl⟩
            rw [← el2] at g2 g3 g4
            have hm2 : l2.length ≤ 16384 := by have := hs.length_le; omega
            obtain ⟨m2, em2⟩ : ∃ m2, m2 = l2.length := ⟨_, rfl⟩
            rw [← em2] at g2 hm2
            rw [← g2] at hLen
            have HM := Lib.hid em2
            clear em2 g2
            obtain ⟨pa, pb, hab⟩ := List.append_of_mem hke.mem
            have hsb : Sh R R wo (R + 2) R (R + 1) 1048576 last (pa ++ nd :: pb) := hab ▸ hs
            have hAt := At_some R R (R + 2) R (R + 1) 1048576 last pa pb nd wo hsb (by rw [hid1]; decide)
            rw [hid1] at hAt
            clear hab hsb hlt hbr hDr
            go_wp2_with fail
            refine hLen.mono ?_
            rintro e wob ⟨rfl, ewo⟩
            rw [ewo]
            clear ewo wob
            go_wp2_with fail
            refine hAt.mono ?_
            rintro e w8 ⟨v, rfl, hret, hb8⟩
            have hret : RetE ⟨1, key, lp, st, lf, body, asked, came⟩ wo.heap.size v w8 := by rw [hnx] at hret; exact hret
            obtain ⟨vpy, vfy, rfl, o1, o2⟩ := hret
            obtain ⟨apy, kpy, rfl, -⟩ := (Fs.own o1).form
            obtain ⟨afy, kfy, rfl, -⟩ := (Fs.own o2).form
            simp only
            clear o1 o2
            obtain ⟨w9, e9⟩ : ∃ w9 : World, w9 = w8.alloc (.cells #[S key, .slice apy lp.length kpy, .int .i64 st, .slice afy lf.length kfy, S body, .int .i64 asked, .int .i64 came] 28) := ⟨_, rfl⟩
            have hb9 : Below wo.heap.size wo w9 := by rw [e9]; exact hb8.alloc hb8.size _
            have hE9 := hEr.on hb9
            have hs9 := hs.below hb9
            have hw9 : Below B w w9 := hwr.trans (hb9.mono (by omega))
            have HW := Lib.hid e9
            clear e9 hb8 hb9 hEr hs hwr hAt hLen
            go_upto_region 33 with fail
            rw [← HW.out]
            clear HW
            have y0 : w9.cell? ⟨B, 0, none⟩ = some (S key) := hE9.cell 0
            have hFg := Forget_any R R (R + 2) R (R + 1) 1048576 last l w9 hs9 key
            rw [g1, ← el2] at hFg
            go_wp2_with fail
            refine hFg.mono ?_
            rintro e w10 ⟨rfl, hs10, hb10⟩
            have hE10 := hE9.but hb10 (fun hk => by have := hs9.base B hk; omega)
            have hw10 : Below B w w10 := hw9.trans (hb10.below (fun k hk => by have := hs9.base k hk; omega) (by have := hE9.lt; omega))
            have hAn := At_none R R (R + 2) R (R + 1) 1048576 last l2 w10 hs10 1 (fun n hn => by have := g3 n hn; rw [hid1] at this; exact this) (by decide)
            clear y0 hFg hb10 hE9 hs9 hw9 g3 el2
            go_wp2_with fail
            refine hAn.mono ?_
            rintro e w11 ⟨rfl, hb11⟩
            obtain ⟨w12, e12⟩ : ∃ w12 : World, w12 = w11.alloc (.cells Ez 28) := ⟨_, rfl⟩
            have hb12 : Below w10.heap.size w10 w12 := by rw [e12]; exact hb11.alloc hb11.size _
            have hE12 := hE10.on hb12
            have hs12 := hs10.below hb12
            have hw12 : Below B w w12 := hw10.trans (hb12.mono (by have := hE10.lt; omega))
            have HW := Lib.hid e12
            clear e12 hb11 hb12 hE10 hs10 hw10 hAn
            go_upto_region 35 with fail
            rw [← HW.out]
            clear HW
            have y0 : w12.cell? ⟨B, 0, none⟩ = some (S key) := hE12.cell 0
            have hLen := Len_any R R (R + 2) R (R + 1) 1048576 last l2 w12 hs12
            have hFg := Forget_any R R (R + 2) R (R + 1) 1048576 last l2 w12 hs12 key
            rw [g4] at hFg
            rw [← HM.out] at hLen
            clear g1 g4
            go_wp2_with fail
            refine hLen.mono ?_
            rintro e wob ⟨rfl, ewo⟩
            rw [ewo]
            clear ewo wob
            go_wp2_with fail
            refine hFg.mono ?_
            rintro e w13 ⟨rfl, hs13, hb13⟩
            go_wp2
            go_ret
            exact ⟨rfl, by rw [← HB.out]; exact hw12.trans (hb13.below (fun k hk => by have := hs12.base k hk; omega) (by have := hE12.lt; omega))⟩
      · have hPut := Put_long R R (R + 2) R (R + 1) 1048576 0 [] ⟨key, .slice ap lp.length kp, st, .slice af lf.length kf, body, asked, came⟩ lp lf w4 hs4 (fun w' hb => (hp.below (hst4 w' hb)).mono (hst4z w' hb)) (fun w' hb => (hf.below (hst4 w' hb)).mono (hst4z w' hb)) (by show key.length ≤ _; omega) (by show body.length ≤ _; omega) (by omega) (by omega) (by omega) (by show (1048576 : Int) < ((64 + key.length + body.length + fsum lf + fsum lp : Nat) : Int); omega)
        go_wp2_with fail
        refine hPut.mono ?_
        rintro e w5 ⟨rfl, hs5, hb5⟩
        have hE5 := hE4.but hb5 (fun hk => by have := hs4.base B hk; omega)
        have hw5 : Below B w w5 := hst4 w5 hb5
        have hB5 : B < w5.heap.size := hE5.lt
        clear x0 x1 x2 x3 x4 x5 x6
        (have x0 : w5.cell? ⟨B, 0, none⟩ = some (S key) := hE5.cell 0; have x1 : w5.cell? ⟨B, 1, none⟩ = some (.slice ap lp.length kp) := hE5.cell 1; have x2 : w5.cell? ⟨B, 2, none⟩ = some (.int .i64 st) := hE5.cell 2; have x3 : w5.cell? ⟨B, 3, none⟩ = some (.slice af lf.length kf) := hE5.cell 3; have x4 : w5.cell? ⟨B, 4, none⟩ = some (S body) := hE5.cell 4; have x5 : w5.cell? ⟨B, 5, none⟩ = some (.int .i64 asked) := hE5.cell 5; have x6 : w5.cell? ⟨B, 6, none⟩ = some (.int .i64 came) := hE5.cell 6)
        have hcost := refCost_any ⟨key, .slice ap lp.length kp, st, .slice af lf.length kf, body, asked, came⟩ lp lf w5 ((hp.below hw5).mono (Nat.le_of_lt hB5)) ((hf.below hw5).mono (Nat.le_of_lt hB5)) (by show key.length ≤ _; omega) (by show body.length ≤ _; omega) (by omega) (by omega)
        have hcf : costF ⟨key, .slice ap lp.length kp, st, .slice af lf.length kf, body, asked, came⟩ lp lf = 64 + key.length + body.length + fsum lf + fsum lp := rfl
        rw [hcf] at hcost
        clear hcf
        obtain ⟨c, ec⟩ : ∃ c, c = 64 + key.length + body.length + fsum lf + fsum lp := ⟨_, rfl⟩
        rw [← ec] at hcost hc
        have hcd : decide ((1048576 : Int) < (c : Int)) = true := by simp; omega
        clear ec
        go_wp2_with fail
        refine hcost.mono ?_
        rintro e w6 ⟨rfl, hb6⟩
        go_wp2
        go_ret
        exact ⟨rfl, by rw [← HB.out]; exact hw5.trans (hb6.mono (Nat.le_of_lt hB5))⟩

end Go.Proofs.YthjkbempgnihmaaDoor
