
/- The walk of a law of layer 19: the costs together are never above the room; what went was unused at least as long as what stays. Printed by bndgen.py. -/
import Derived.Test.YthjkbempgnihmaaDoorLaw19e
import Derived.Test.YthjkbempgnihmaaDoorShb
namespace Go.Proofs.YthjkbempgnihmaaDoor
open Go.RowKit Go.Dr

set_option linter.unusedSimpArgs false in
set_option linter.unusedVariables false in
set_option linter.unnecessarySimpa false in
set_option maxRecDepth 100000 in
set_option maxHeartbeats 32000000 in
theorem bounds_law (most : Int) (vo : Value) (others : List Ex) (w : World) (ho : Xs w.heap.size w vo others) (hoks : ∀ x ∈ others, x.Ok) :
    Calls Tryd.prog 3 #[.int .i64 most, vo] w fun e w' => e = .returned (.bool true) ∧ Below w.heap.size w w' := by
  obtain ⟨ao, ko, rfl, hom⟩ := ho.form
  obtain ⟨B, eB⟩ : ∃ B, B = w.heap.size := ⟨_, rfl⟩
  rw [← eB] at ho
  have HB := Lib.hid eB
  have haw := awake19_any w
  rw [← eB] at haw
  clear eB
  go_enter Tryd.func3, Tryd.ntmps3
  go_wp2_with fail
  refine haw.mono ?_
  rintro e w1 ⟨rfl, hb1⟩
  have hw1 : Below B w w1 := hb1
  have hBG : B ≤ w1.heap.size := by rw [HB.out]; exact hb1.size
  obtain ⟨G, eG⟩ : ∃ G, G = w1.heap.size := ⟨_, rfl⟩
  rw [← eG] at hBG
  have hGz : G ≤ w1.heap.size := Nat.le_of_eq eG
  clear haw hb1 eG
  go_wp2
  go_loopw [5, 6] (fun v i wr => ∃ k : Nat, i = .int .i64 k ∧ k ≤ others.length ∧ k ≤ 60 ∧ wr.ownsRow G 30 10 v k (dcells ((others.take k).map Dof)) ∧ Below G w1 wr) (fun _ i _ => others.length - (intOf i).toNat)
  case atStart => exact ⟨0, rfl, Nat.zero_le _, by omega, World.ownsRow_nil _ _ _ _, Below.refl _ _⟩
  case round =>
    obtain ⟨k, rfl, hk, hk60, hown, hbr⟩ := hrel
    have hwr : Below B w wr := hw1.trans (hbr.mono hBG)
    have hor := ho.below hwr
    have hzr := hbr.size
    obtain ⟨av, cv, hv5⟩ := row_form hown
    subst hv5
    by_cases hlt : k < others.length
    · by_cases h60 : k < 60
      · obtain ⟨b, off, rfl, hbb, c0, c1, c2, c3, c4, c5, c6⟩ := hor.at k hlt
        have hx2 := hor.2 others[k] (List.getElem_mem hlt)
        have hsn : others.take (k + 1) = others.take k ++ [others[k]] := take_snoc others k hlt
        obtain ⟨axp, kxp, hxp, -⟩ := hx2.1.form
        obtain ⟨axf, kxf, hxf, -⟩ := hx2.2.form
        generalize others[k] = x at *
        obtain ⟨⟨xkey, xvp, xst, xvf, xbody, xa, xc⟩, xlp, xlf⟩ := x
        simp only at *
        subst hxp hxf
        have hG1 : G ≤ wr.heap.size := by omega
        go_wp2_with (at_builtin; refine wpList_appRd rfl _ _ 24 rfl G 30 (.agg Doz) 10 144 Tryd.underlying24 (by kernel_rfl) rfl (by decide) _ _ _ rfl (by exact hown.alloc _) _ _ _ _ rfl (by exact Rd.lit wr 30 #[.int .i64 0, .int .i64 0, S xkey, .slice axp xlp.length kxp, .int .i64 xst, .slice axf xlf.length kxf, S xbody, .int .i64 xa, .int .i64 xc, .slice none 0 0] 10 1 rfl (by decide)) (Dv.one (Dof ⟨⟨xkey, .slice axp xlp.length kxp, xst, .slice axf xlf.length kxf, xbody, xa, xc⟩, xlp, xlf⟩) ⟨_, _, _, rfl⟩ ⟨_, _, _, rfl⟩ ⟨_, _, _, rfl⟩) (by unfold maxLen; omega) (by omega) (by simp; omega) ?_; intro a2 c2' w2 hown2 hb2)
        go_roundw
        case rel => exact ⟨k + 1, by go_num, by omega, by omega, by
          have e : dcells ((others.take (k + 1)).map Dof) = dcells ((others.take k).map Dof) ++ #[.int .i64 0, .int .i64 0, S xkey, .slice axp xlp.length kxp, .int .i64 xst, .slice axf xlf.length kxf, S xbody, .int .i64 xa, .int .i64 xc, .slice none 0 0].toList := by
            rw [hsn, List.map_append, dcells_append]
            rfl
          rw [e]
          exact hown2, (hbr.alloc hG1 _).trans hb2⟩
        case measure => (first | (simp [intOf]; done) | (simp [intOf]; omega))
      ·
        have hdec : decide (k < 60) = false := by simp; omega
        obtain ⟨w2, rfl⟩ : ∃ w2 : World, w2 = wr := ⟨_, rfl⟩
        have hB2 : B ≤ w2.heap.size := by omega
        have hL : ((others.take k).map Dof : List Dv).length = k := by
          rw [List.length_map, List.length_take]
          omega
        obtain ⟨L, eL⟩ : ∃ L : List Dv, L = (others.take k).map Dof := ⟨_, rfl⟩
        have hLok : ∀ d ∈ L, d.Ok := by
          rw [eL]
          intro d hd
          obtain ⟨x, hx, rfl⟩ := List.mem_map.1 hd
          exact Dof_ok (hoks x (List.mem_of_mem_take hx))
        have hD2 : Ds w2.heap.size w2 (.slice av k cv) L := by
          refine ⟨?_, ?_⟩
          · rw [eL, hL]
            exact Rd.own hown
          · rw [eL]
            intro d hd
            obtain ⟨x, hx, rfl⟩ := List.mem_map.1 hd
            have := hor.2 x (List.mem_of_mem_take hx)
            exact ⟨this.1.mono hB2, this.2.mono hB2, Rd.nil _ _ _⟩
        rw [← eL] at hL
        clear eL hown hbr hor hoks
        go_wp2_with fail
        refine (few19_any L _ w2 hD2 hLok).mono ?_
        rintro e w3 ⟨b, rfl, hsm, hb3⟩
        have HSM := Lib.hid hsm
        clear hsm
        have hw3 : Below B w w3 := hwr.trans (hb3.mono hB2)
        have hD3 := (hD2.below hb3).mono hb3.size
        have hB3 : B ≤ w3.heap.size := Nat.le_trans hB2 hb3.size
        clear hD2 hb3 hwr hLok hB2
        cases b with
        | false =>
          go_wp2
          go_ret
          exact ⟨rfl, by rw [← HB.out]; exact hw3⟩
        | true =>
        have HSm : Hid (∀ d ∈ L, Small d) := fun d hd => HSM.out rfl d (by rw [List.take_of_length_le (by omega)]; exact hd)
        clear HSM
        by_cases hm0 : most < 0
        · have t1 : decide (most < 0) = true := by simpa using hm0
          go_wp2
          go_ret
          exact ⟨rfl, by rw [← HB.out]; exact hw3⟩
        by_cases hm1 : (1048576 : Int) < most
        · have t1 : decide (most < 0) = false := by simpa using hm0
          have t2 : decide ((1048576 : Int) < most) = true := by simpa using hm1
          go_wp2
          go_ret
          exact ⟨rfl, by rw [← HB.out]; exact hw3⟩
        obtain ⟨M, rfl⟩ : ∃ M : Nat, most = (M : Int) := ⟨most.toNat, by omega⟩
        have hM : M ≤ 1048576 := by omega
        have t1 : decide ((M : Int) < 0) = false := by
          rw [decide_eq_false_iff_not]
          omega
        have t2 : decide ((1048576 : Int) < (M : Int)) = false := by
          rw [decide_eq_false_iff_not]
          omega
        have t3 : decide (1048576 < M) = false := by
          rw [decide_eq_false_iff_not]
          omega
        clear hm0 hm1
        have HN := New_any (M : Int) (by omega) (by omega) w3
        go_wp2_with fail
        refine HN.mono ?_
        rintro e w4 ⟨rfl, hb4, n1, n2, n3⟩
        have hs4 : Sh w3.heap.size w3.heap.size w4 (w3.heap.size + 2) w3.heap.size (w3.heap.size + 1) (M : Int) 0 [] := sh_new n1 n2 n3 (Nat.le_refl _) (by omega) (by omega)
        obtain ⟨R, eR⟩ : ∃ R, R = w3.heap.size := ⟨_, rfl⟩
        rw [← eR] at hs4 hB3 hb4 hD3 ⊢
        have hw4 : Below B w w4 := hw3.trans (hb4.mono hB3)
        have hD4 := hD3.below hb4
        clear HN n1 n2 n3 hb4 hw3 hD3 eR t1 t2 t3
        go_wp2
        go_loopw [9] (fun i wr => ∃ (j : Nat) (last : Int) (l : List Nd), i = .int .i64 j ∧ j ≤ k ∧ Sh R R wr (R + 2) R (R + 1) (M : Int) last l ∧ (∀ n ∈ l, n.x.id ≤ last) ∧ 0 ≤ last ∧ last ≤ (j : Int) ∧ Below R w4 wr) (fun i _ => k - (intOf i).toNat)
        case atStart => exact ⟨0, 0, [], rfl, Nat.zero_le _, hs4, by simp, Int.le_refl _, Int.le_refl _, Below.refl _ _⟩
        case round =>
          obtain ⟨j, last, l, rfl, hj2, hs, hids, hla, hla2, hbr⟩ := hrel
          have hwr : Below B w wr := hw4.trans (hbr.mono hB3)
          have hDr := hD4.below hbr
          have hRr : R < wr.heap.size := hs.rlt
          obtain ⟨wo, rfl⟩ : ∃ wo : World, wo = wr := ⟨_, rfl⟩
          by_cases hlt : j < k
          · obtain ⟨b, off, rfl, hbb, c0, c1, c2, c3, c4, c5, c6, c7, c8, c9⟩ := hDr.at j (by omega)
            have hdd := hDr.2 (L[j]'(by omega)) (List.getElem_mem _)
            have hdS := HSm.out (L[j]'(by omega)) (List.getElem_mem _)
            obtain ⟨d, ed⟩ : ∃ d, d = L[j]'(by omega) := ⟨_, rfl⟩
            rw [← ed] at c0 c1 c2 c3 c4 c5 c6 c7 c8 c9 hdd hdS
            clear ed
            obtain ⟨kind, num, ⟨xkey, xvp, xst, xvf, xbody, xa, xc⟩, xvl, xlp, xlf, xll⟩ := d
            obtain ⟨axp, kxp, hxp, -⟩ := hdd.1.form
            obtain ⟨axf, kxf, hxf, -⟩ := hdd.2.1.form
            simp only at c2 c3 c4 c5 c6 c7 c8 hxp hxf
            subst hxp hxf
            have hxp : Fs R wo (.slice axp xlp.length kxp) xlp := hdd.1
            have hxf : Fs R wo (.slice axf xlf.length kxf) xlf := hdd.2.1
            have r1 : xkey.length ≤ 65536 := hdS.key
            have r2 : xbody.length ≤ 2097152 := hdS.body
            have r3 : fsum xlp ≤ 551600 := hdS.sum
            have r4 : fsum xlf ≤ 131072 := hdS.lf
            have d3 : wo.cell? ⟨b, off + j * 10 + 2 + 1, none⟩ = some (.slice axp xlp.length kxp) := c3
            have d4 : wo.cell? ⟨b, off + j * 10 + 2 + 2, none⟩ = some (.int .i64 xst) := c4
            have d5 : wo.cell? ⟨b, off + j * 10 + 2 + 3, none⟩ = some (.slice axf xlf.length kxf) := c5
            have d6 : wo.cell? ⟨b, off + j * 10 + 2 + 4, none⟩ = some (S xbody) := c6
            have d7 : wo.cell? ⟨b, off + j * 10 + 2 + 5, none⟩ = some (.int .i64 xa) := c7
            have d8 : wo.cell? ⟨b, off + j * 10 + 2 + 6, none⟩ = some (.int .i64 xc) := c8
            obtain ⟨wx, ex⟩ : ∃ wx : World, wx = wo.alloc (.cells #[S xkey, .slice axp xlp.length kxp, .int .i64 xst, .slice axf xlf.length kxf, S xbody, .int .i64 xa, .int .i64 xc] 28) := ⟨_, rfl⟩
            obtain ⟨X, eX⟩ : ∃ X, X = wo.heap.size := ⟨_, rfl⟩
            have hX : Blk wx X 28 #[S xkey, .slice axp xlp.length kxp, .int .i64 xst, .slice axf xlf.length kxf, S xbody, .int .i64 xa, .int .i64 xc] := by rw [ex, eX]; exact Blk.new _ _ _
            have hbx : Below wo.heap.size wo wx := by rw [ex]; exact (Below.refl _ _).alloc (Nat.le_refl _) _
            have hsx := hs.below hbx
            have hRx : R < wx.heap.size := hsx.rlt
            have hRX : Below R wo wx := hbx.mono (Nat.le_of_lt hRr)
            have HW := Lib.hid ex
            have HX := Lib.hid eX
            clear ex eX hbx hdd hdS
            go_upto_region 17 with fail
            rw [← HX.out, ← HW.out]
            clear HX HW c0 c1 c2 c3 c4 c5 c6 c7 c8 c9 d3 d4 d5 d6 d7 d8
            have hAll := ShAll_any R R (R + 2) R (R + 1) (M : Int) last l wx hsx
            go_wp2_with fail
            refine hAll.mono ?_
            rintro e wy ⟨vW, evsW, rfl, hW, hby⟩
            obtain ⟨aW, cW, hvW⟩ := row_form hW.row
            subst hvW
            have hXy := hX.on hby
            have hsy := hsx.below hby
            have hRY : Below R wo wy := hRX.trans (hby.mono (Nat.le_of_lt hRx))
            have hRy : R < wy.heap.size := hsy.rlt
            have hpst : ∀ w', But (Foot (R + 2) R (R + 1) l) wy w' → Below R wo w' := fun w' hb => hRY.trans (hb.below hsy.base (Nat.le_of_lt hRy))
            have hpz : ∀ w', But (Foot (R + 2) R (R + 1) l) wy w' → R ≤ w'.heap.size := fun w' hb => Nat.le_trans (Nat.le_of_lt hRy) hb.size
            have hXo : ¬ Foot (R + 2) R (R + 1) l X := hsy.off hXy (by decide) (by decide)
            clear hX hsx hRX hRx hby hAll hs hRr
            (have x0 : wy.cell? ⟨X, 0, none⟩ = some (S xkey) := hXy.cell 0; have x1 : wy.cell? ⟨X, 1, none⟩ = some (.slice axp xlp.length kxp) := hXy.cell 1; have x2 : wy.cell? ⟨X, 2, none⟩ = some (.int .i64 xst) := hXy.cell 2; have x3 : wy.cell? ⟨X, 3, none⟩ = some (.slice axf xlf.length kxf) := hXy.cell 3; have x4 : wy.cell? ⟨X, 4, none⟩ = some (S xbody) := hXy.cell 4; have x5 : wy.cell? ⟨X, 5, none⟩ = some (.int .i64 xa) := hXy.cell 5; have x6 : wy.cell? ⟨X, 6, none⟩ = some (.int .i64 xc) := hXy.cell 6)
            by_cases hc : 64 + xkey.length + xbody.length + fsum xlf + fsum xlp ≤ M
            · have hPut := Put_any R R (R + 2) R (R + 1) (M : Int) last l ⟨xkey, .slice axp xlp.length kxp, xst, .slice axf xlf.length kxf, xbody, xa, xc⟩ xlp xlf wy hsy (Nat.le_of_lt hRy) (Nat.le_of_lt hRy) (fun w' hb => (hxp.below (hpst w' hb)).mono (hpz w' hb)) (fun w' hb => (hxf.below (hpst w' hb)).mono (hpz w' hb)) (by show xkey.length ≤ _; omega) (by show xbody.length ≤ _; omega) (by omega) (by omega) hids (by omega) M rfl hc
              go_wp2_with fail
              refine hPut.mono ?_
              rintro e w7 ⟨rfl, nd, hnx, -, hs7, hb7⟩
              obtain ⟨D, eD⟩ : ∃ D, D = roomOf (M - costF ⟨xkey, .slice axp xlp.length kxp, xst, .slice axf xlf.length kxf, xbody, xa, xc⟩ xlp xlf) (l.filter fun n => !alikeP xkey xlp n) := ⟨_, rfl⟩
              have hends : ∃ E, l.filter (fun n => !alikeP xkey xlp n) = E ++ D := by rw [eD]; exact roomOf_suffix _ _
              have hs7 : Sh R R w7 (R + 2) R (R + 1) (M : Int) (last + 1) (D ++ [nd]) := by rw [eD]; exact hs7
              have hids7 : ∀ n ∈ D ++ [nd], n.x.id ≤ last + 1 := by
                intro n hn
                rcases List.mem_append.1 hn with hn | hn
                · obtain ⟨E, hE⟩ := hends
                  have : n ∈ l.filter (fun n => !alikeP xkey xlp n) := by rw [hE]; exact List.mem_append.2 (.inr hn)
                  have := hids n (List.mem_filter.1 this).1
                  omega
                · rw [List.mem_singleton.1 hn, hnx]; exact Int.le_refl _
              clear eD
              have hX7 := hXy.but hb7 hXo
              have hW7 := hW.but hsy hb7
              have hRY7 : Below R wo w7 := hpst w7 hb7
              have hll : l.length ≤ 16384 := hsy.length_le
              have hR7 : R < w7.heap.size := hs7.rlt
              have hcost := Cost_any ⟨xkey, .slice axp xlp.length kxp, xst, .slice axf xlf.length kxf, xbody, xa, xc⟩ xlp xlf w7 ((hxp.below hRY7).mono (Nat.le_of_lt hR7)) ((hxf.below hRY7).mono (Nat.le_of_lt hR7)) (by show xkey.length ≤ _; omega) (by show xbody.length ≤ _; omega) (by omega) (by omega)
              have hcf : costF ⟨xkey, .slice axp xlp.length kxp, xst, .slice axf xlf.length kxf, xbody, xa, xc⟩ xlp xlf = 64 + xkey.length + xbody.length + fsum xlf + fsum xlp := rfl
              rw [hcf] at hcost
              clear hcf
              obtain ⟨cx, ecx⟩ : ∃ cx, cx = 64 + xkey.length + xbody.length + fsum xlf + fsum xlp := ⟨_, rfl⟩
              rw [← ecx] at hcost hc
              clear ecx x0 x1 x2 x3 x4 x5 x6 hPut hpst hpz hXy hsy hW hRY hRy hXo hb7
              (have x0 : w7.cell? ⟨X, 0, none⟩ = some (S xkey) := hX7.cell 0; have x1 : w7.cell? ⟨X, 1, none⟩ = some (.slice axp xlp.length kxp) := hX7.cell 1; have x2 : w7.cell? ⟨X, 2, none⟩ = some (.int .i64 xst) := hX7.cell 2; have x3 : w7.cell? ⟨X, 3, none⟩ = some (.slice axf xlf.length kxf) := hX7.cell 3; have x4 : w7.cell? ⟨X, 4, none⟩ = some (S xbody) := hX7.cell 4; have x5 : w7.cell? ⟨X, 5, none⟩ = some (.int .i64 xa) := hX7.cell 5; have x6 : w7.cell? ⟨X, 6, none⟩ = some (.int .i64 xc) := hX7.cell 6)
              go_wp2_with fail
              refine hcost.mono ?_
              rintro e w8 ⟨rfl, hb8⟩
              have hX8 := hX7.on hb8
              have hW8 := hW7.below hb8
              have hs8 := hs7.below hb8
              have hRY8 : Below R wo w8 := hRY7.trans (hb8.mono (Nat.le_of_lt hR7))
              have hR8 : R < w8.heap.size := hs8.rlt
              obtain ⟨cs, ecs⟩ : ∃ cs, cs = costs ((D ++ [nd]).map Nd.x) := ⟨_, rfl⟩
              have hby8 : w8.cell? ⟨R + 2, 1, none⟩ = some (.int .i64 (cs : Nat)) := by rw [ecs]; exact hs8.blk.cell 1
              have hcs : (cs : Int) ≤ (M : Int) := by rw [ecs]; exact hs8.room
              have hBt := Bytes_any (R + 2) (cs : Nat) w8 hby8
              have u1 : decide ((M : Int) < (cx : Int)) = false := by simp; omega
              have u2 : decide (M < cx) = false := by simp; omega
              have u3 : decide ((M : Int) < (cs : Int)) = false := by simp; omega
              have u4 : decide (M < cs) = false := by simp; omega
              have u5 : decide (last + 1 < 1) = false := by simp; omega
              clear ecs x0 x1 x2 x3 x4 x5 x6 hX7 hW7 hs7 hRY7 hR7 hb8 hcost
              go_wp2_with fail
              refine hBt.mono ?_
              rintro e w8b ⟨rfl, e8⟩
              rw [e8]
              clear e8 w8b
              have hAll := ShAll_any R R (R + 2) R (R + 1) (M : Int) (last + 1) (D ++ [nd]) w8 hs8
              go_wp2_with fail
              refine hAll.mono ?_
              rintro e w9 ⟨vN, evsN, rfl, hN, hb9⟩
              obtain ⟨aN, cN, hvN⟩ := row_form hN.row
              subst hvN
              have hX9 := hX8.on hb9
              have hW9 := hW8.below hb9
              have hs9 := hs8.below hb9
              have hRY9 : Below R wo w9 := hRY8.trans (hb9.mono (Nat.le_of_lt hR8))
              have hR9 : R < w9.heap.size := hs9.rlt
              have hlN := hN.len
              have hlW := hW9.len
              have hlc := hs9.length_le
              clear u1 u2 u3 u4 hX8 hW8 hs8 hRY8 hR8 hb9 hAll hBt hby8 hcs
              rw [List.length_append, List.length_singleton] at hlN hlc
              obtain ⟨evl, eel⟩ : ∃ ev, ev = evsN[D.length]'(by omega) := ⟨_, rfl⟩
              have hevx : evl.x = nd.x := by
                rw [eel, hN.get D.length (by omega) (by simp)]
                simp
              obtain ⟨bN, oN, rfl, hbN, g0, g1, g2, g3, g4, g5, g6⟩ := ev_at_k (Rd.own hN.row) D.length (by omega)
              have hel := hN.lists evl (by rw [eel]; exact List.getElem_mem _)
              rw [← eel] at g0 g1 g2 g3 g4 g5 g6
              clear eel
              obtain ⟨vpl, vfl, xl⟩ := evl
              simp only at hevx
              rw [hnx] at hevx
              subst hevx
              replace g0 : w9.cell? ⟨bN, oN + D.length * 7, none⟩ = some (S xkey) := g0
              replace g1 : w9.cell? ⟨bN, oN + D.length * 7 + 1, none⟩ = some vpl := g1
              replace g2 : w9.cell? ⟨bN, oN + D.length * 7 + 2, none⟩ = some (.int .i64 xst) := g2
              replace g3 : w9.cell? ⟨bN, oN + D.length * 7 + 3, none⟩ = some vfl := g3
              replace g4 : w9.cell? ⟨bN, oN + D.length * 7 + 4, none⟩ = some (S xbody) := g4
              replace g5 : w9.cell? ⟨bN, oN + D.length * 7 + 5, none⟩ = some (.int .i64 xa) := g5
              replace g6 : w9.cell? ⟨bN, oN + D.length * 7 + 6, none⟩ = some (.int .i64 xc) := g6
              have hSm := refSame_eq ⟨xkey, vpl, xst, vfl, xbody, xa, xc⟩ (.slice axp xlp.length kxp) (.slice axf xlf.length kxf) xlp xlf w9.drew (show Fs w9.drew.heap.size w9.drew vpl xlp from Fs.own hel.1) (show Fs w9.drew.heap.size w9.drew vfl xlf from Fs.own hel.2) (show Fs w9.drew.heap.size w9.drew _ xlp from (hxp.below hRY9).mono (Nat.le_of_lt hR9)) (show Fs w9.drew.heap.size w9.drew _ xlf from (hxf.below hRY9).mono (Nat.le_of_lt hR9))
              simp only [En.val] at hSm
              obtain ⟨dn, edn⟩ : ∃ dn, dn = D.length := ⟨_, rfl⟩
              rw [← edn] at g0 g1 g2 g3 g4 g5 g6 hlc hlN
              rw [hlN]
              have HDN := Lib.hid edn
              have HLN := Lib.hid hlN
              clear hel edn hlN
              (have x0 : w9.cell? ⟨X, 0, none⟩ = some (S xkey) := hX9.cell 0; have x1 : w9.cell? ⟨X, 1, none⟩ = some (.slice axp xlp.length kxp) := hX9.cell 1; have x2 : w9.cell? ⟨X, 2, none⟩ = some (.int .i64 xst) := hX9.cell 2; have x3 : w9.cell? ⟨X, 3, none⟩ = some (.slice axf xlf.length kxf) := hX9.cell 3; have x4 : w9.cell? ⟨X, 4, none⟩ = some (S xbody) := hX9.cell 4; have x5 : w9.cell? ⟨X, 5, none⟩ = some (.int .i64 xa) := hX9.cell 5; have x6 : w9.cell? ⟨X, 6, none⟩ = some (.int .i64 xc) := hX9.cell 6)
              have t0 : ((dn : Int) + 1 == 0) = false := by
                rw [beq_eq_false_iff_ne]
                omega
              have t1 : IntKind.i64.wrap (dn : Int) = dn := IntWalk.i64_in _ (by omega)
              have t2 : ((dn : Int) < (dn : Int) + 1) = True := by simp; omega
              go_wp2_with fail
              refine wp_region_held_drew (S := (fun wx => wx.cell? ⟨bN, oN + dn * 7, none⟩ = some (S xkey) ∧ wx.cell? ⟨bN, oN + dn * 7 + 1, none⟩ = some (vpl) ∧ wx.cell? ⟨bN, oN + dn * 7 + 2, none⟩ = some (.int .i64 xst) ∧ wx.cell? ⟨bN, oN + dn * 7 + 3, none⟩ = some (vfl) ∧ wx.cell? ⟨bN, oN + dn * 7 + 4, none⟩ = some (S xbody) ∧ wx.cell? ⟨bN, oN + dn * 7 + 5, none⟩ = some (.int .i64 xa) ∧ wx.cell? ⟨bN, oN + dn * 7 + 6, none⟩ = some (.int .i64 xc) ∧ wx.cell? ⟨X, 0, none⟩ = some (S xkey) ∧ wx.cell? ⟨X, 1, none⟩ = some (.slice axp xlp.length kxp) ∧ wx.cell? ⟨X, 2, none⟩ = some (.int .i64 xst) ∧ wx.cell? ⟨X, 3, none⟩ = some (.slice axf xlf.length kxf) ∧ wx.cell? ⟨X, 4, none⟩ = some (S xbody) ∧ wx.cell? ⟨X, 5, none⟩ = some (.int .i64 xa) ∧ wx.cell? ⟨X, 6, none⟩ = some (.int .i64 xc))) (by kernel_rfl) ⟨g0, g1, g2, g3, g4, g5, g6, x0, x1, x2, x3, x4, x5, x6⟩ (fun hHeld => ?_)
              refine wpAnyH_take (i := 0) (v := ?_) (by rfl) (by kernel_rfl) (by kernel_rfl) (by kernel_rfl) (by exact fun _ _ _ h => h) (Or.inl ⟨by rfl, ?_⟩) hHeld ?_
              rotate_left
              · (intro w hSw; (try dsimp only at hSw); go_simp; try with_reducible rfl)
              simp only [Act.put, List.getElem_toArray, List.getElem_cons_succ, List.getElem_cons_zero, List.setIfInBounds_toArray, List.set_cons_zero, List.set_cons_succ]
              refine wpAnyH_take (i := 1) (v := ?_) (by rfl) (by kernel_rfl) (by kernel_rfl) (by kernel_rfl) (by exact fun _ _ _ h => h) (Or.inl ⟨by rfl, ?_⟩) hHeld ?_
              rotate_left
              · (intro w hSw; (try dsimp only at hSw); go_simp; try with_reducible rfl)
              simp only [Act.put, List.getElem_toArray, List.getElem_cons_succ, List.getElem_cons_zero, List.setIfInBounds_toArray, List.set_cons_zero, List.set_cons_succ]
              refine wpAnyH_take (i := 2) (v := ?_) (by rfl) (by kernel_rfl) (by kernel_rfl) (by kernel_rfl) (by exact fun _ _ _ h => h) (Or.inl ⟨by rfl, ?_⟩) hHeld ?_
              rotate_left
              · (intro w hSw; (try dsimp only at hSw); go_simp; try with_reducible rfl)
              simp only [Act.put, List.getElem_toArray, List.getElem_cons_succ, List.getElem_cons_zero, List.setIfInBounds_toArray, List.set_cons_zero, List.set_cons_succ]
              refine wpAnyH_take (i := 3) (v := ?_) (by rfl) (by kernel_rfl) (by kernel_rfl) (by kernel_rfl) (by exact fun _ _ _ h => h) (Or.inl ⟨by rfl, ?_⟩) hHeld ?_
              rotate_left
              · (intro w hSw; (try dsimp only at hSw); go_simp; try with_reducible rfl)
              simp only [Act.put, List.getElem_toArray, List.getElem_cons_succ, List.getElem_cons_zero, List.setIfInBounds_toArray, List.set_cons_zero, List.set_cons_succ]
              refine wpAnyH_take (i := 4) (v := ?_) (by rfl) (by kernel_rfl) (by kernel_rfl) (by kernel_rfl) (by exact fun _ _ _ h => h) (Or.inl ⟨by rfl, ?_⟩) hHeld ?_
              rotate_left
              · (intro w hSw; (try dsimp only at hSw); go_simp; try with_reducible rfl)
              simp only [Act.put, List.getElem_toArray, List.getElem_cons_succ, List.getElem_cons_zero, List.setIfInBounds_toArray, List.set_cons_zero, List.set_cons_succ]
              refine wpAnyH_take (i := 5) (v := ?_) (by rfl) (by kernel_rfl) (by kernel_rfl) (by kernel_rfl) (by exact fun _ _ _ h => h) (Or.inl ⟨by rfl, ?_⟩) hHeld ?_
              rotate_left
              · (intro w hSw; (try dsimp only at hSw); go_simp; try with_reducible rfl)
              simp only [Act.put, List.getElem_toArray, List.getElem_cons_succ, List.getElem_cons_zero, List.setIfInBounds_toArray, List.set_cons_zero, List.set_cons_succ]
              refine wpAnyH_take (i := 6) (v := ?_) (by rfl) (by kernel_rfl) (by kernel_rfl) (by kernel_rfl) (by exact fun _ _ _ h => h) (Or.inl ⟨by rfl, ?_⟩) hHeld ?_
              rotate_left
              · (intro w hSw; (try dsimp only at hSw); go_simp; try with_reducible rfl)
              simp only [Act.put, List.getElem_toArray, List.getElem_cons_succ, List.getElem_cons_zero, List.setIfInBounds_toArray, List.set_cons_zero, List.set_cons_succ]
              refine wpAnyH_take (i := 7) (v := ?_) (by rfl) (by kernel_rfl) (by kernel_rfl) (by kernel_rfl) (by exact fun _ _ _ h => h) (Or.inl ⟨by rfl, ?_⟩) hHeld ?_
              rotate_left
              · (intro w hSw; (try dsimp only at hSw); go_simp; try with_reducible rfl)
              simp only [Act.put, List.getElem_toArray, List.getElem_cons_succ, List.getElem_cons_zero, List.setIfInBounds_toArray, List.set_cons_zero, List.set_cons_succ]
              refine wpAnyH_take (i := 8) (v := ?_) (by rfl) (by kernel_rfl) (by kernel_rfl) (by kernel_rfl) (by exact fun _ _ _ h => h) (Or.inl ⟨by rfl, ?_⟩) hHeld ?_
              rotate_left
              · (intro w hSw; (try dsimp only at hSw); go_simp; try with_reducible rfl)
              simp only [Act.put, List.getElem_toArray, List.getElem_cons_succ, List.getElem_cons_zero, List.setIfInBounds_toArray, List.set_cons_zero, List.set_cons_succ]
              refine wpAnyH_take (i := 9) (v := ?_) (by rfl) (by kernel_rfl) (by kernel_rfl) (by kernel_rfl) (by exact fun _ _ _ h => h) (Or.inl ⟨by rfl, ?_⟩) hHeld ?_
              rotate_left
              · (intro w hSw; (try dsimp only at hSw); go_simp; try with_reducible rfl)
              simp only [Act.put, List.getElem_toArray, List.getElem_cons_succ, List.getElem_cons_zero, List.setIfInBounds_toArray, List.set_cons_zero, List.set_cons_succ]
              refine wpAnyH_take (i := 10) (v := ?_) (by rfl) (by kernel_rfl) (by kernel_rfl) (by kernel_rfl) (by exact fun _ _ _ h => h) (Or.inl ⟨by rfl, ?_⟩) hHeld ?_
              rotate_left
              · (intro w hSw; (try dsimp only at hSw); go_simp; try with_reducible rfl)
              simp only [Act.put, List.getElem_toArray, List.getElem_cons_succ, List.getElem_cons_zero, List.setIfInBounds_toArray, List.set_cons_zero, List.set_cons_succ]
              refine wpAnyH_take (i := 11) (v := ?_) (by rfl) (by kernel_rfl) (by kernel_rfl) (by kernel_rfl) (by exact fun _ _ _ h => h) (Or.inl ⟨by rfl, ?_⟩) hHeld ?_
              rotate_left
              · (intro w hSw; (try dsimp only at hSw); go_simp; try with_reducible rfl)
              simp only [Act.put, List.getElem_toArray, List.getElem_cons_succ, List.getElem_cons_zero, List.setIfInBounds_toArray, List.set_cons_zero, List.set_cons_succ]
              refine wpAnyH_take (i := 12) (v := ?_) (by rfl) (by kernel_rfl) (by kernel_rfl) (by kernel_rfl) (by exact fun _ _ _ h => h) (Or.inl ⟨by rfl, ?_⟩) hHeld ?_
              rotate_left
              · (intro w hSw; (try dsimp only at hSw); go_simp; try with_reducible rfl)
              simp only [Act.put, List.getElem_toArray, List.getElem_cons_succ, List.getElem_cons_zero, List.setIfInBounds_toArray, List.set_cons_zero, List.set_cons_succ]
              refine wpAnyH_take (i := 13) (v := ?_) (by rfl) (by kernel_rfl) (by kernel_rfl) (by kernel_rfl) (by exact fun _ _ _ h => h) (Or.inl ⟨by rfl, ?_⟩) hHeld ?_
              rotate_left
              · (intro w hSw; (try dsimp only at hSw); go_simp; try with_reducible rfl)
              simp only [Act.put, List.getElem_toArray, List.getElem_cons_succ, List.getElem_cons_zero, List.setIfInBounds_toArray, List.set_cons_zero, List.set_cons_succ]
              refine wpAnyH_ready (rs := [14]) (by kernel_rfl) (by simp) ?_
              refine AllReadyH.cons (by rfl) (fun K hK => ?_) AllReadyH.nil
              go_simp
              (with_reducible refine hSm.mono ?_); rintro e w10 ⟨rfl, hb10⟩; replace hb10 := Bl.undrew hb10; have hX10 := hX9.on hb10; replace g0 := ((bcell hb10).1 bN (oN + dn * 7) hbN).trans g0; replace g1 := ((bcell hb10).1 bN (oN + dn * 7 + 1) hbN).trans g1; replace g2 := ((bcell hb10).1 bN (oN + dn * 7 + 2) hbN).trans g2; replace g3 := ((bcell hb10).1 bN (oN + dn * 7 + 3) hbN).trans g3; replace g4 := ((bcell hb10).1 bN (oN + dn * 7 + 4) hbN).trans g4; replace g5 := ((bcell hb10).1 bN (oN + dn * 7 + 5) hbN).trans g5; replace g6 := ((bcell hb10).1 bN (oN + dn * 7 + 6) hbN).trans g6; have x0 : w10.cell? ⟨X, 0, none⟩ = some (S xkey) := hX10.cell 0; have x1 : w10.cell? ⟨X, 1, none⟩ = some (.slice axp xlp.length kxp) := hX10.cell 1; have x2 : w10.cell? ⟨X, 2, none⟩ = some (.int .i64 xst) := hX10.cell 2; have x3 : w10.cell? ⟨X, 3, none⟩ = some (.slice axf xlf.length kxf) := hX10.cell 3; have x4 : w10.cell? ⟨X, 4, none⟩ = some (S xbody) := hX10.cell 4; have x5 : w10.cell? ⟨X, 5, none⟩ = some (.int .i64 xa) := hX10.cell 5; have x6 : w10.cell? ⟨X, 6, none⟩ = some (.int .i64 xc) := hX10.cell 6
              refine hK.out _ _ ⟨g0, g1, g2, g3, g4, g5, g6, x0, x1, x2, x3, x4, x5, x6⟩ (fun hHeld => ?_)
              clear hK K
              try simp only [Act.put, List.getElem_toArray, List.getElem_cons_succ, List.getElem_cons_zero, List.setIfInBounds_toArray, List.set_cons_zero, List.set_cons_succ]
              refine wpAnyH_take (i := 15) (v := ?_) (by rfl) (by kernel_rfl) (by kernel_rfl) (by kernel_rfl) (by exact fun _ _ _ h => h) (Or.inl ⟨by rfl, ?_⟩) hHeld ?_
              rotate_left
              · (intro w hSw; (try dsimp only at hSw); go_simp; try with_reducible rfl)
              simp only [Act.put, List.getElem_toArray, List.getElem_cons_succ, List.getElem_cons_zero, List.setIfInBounds_toArray, List.set_cons_zero, List.set_cons_succ]
              refine wpAnyH_take (i := 16) (v := ?_) (by rfl) (by kernel_rfl) (by kernel_rfl) (by kernel_rfl) (by exact fun _ _ _ h => h) (Or.inl ⟨by rfl, ?_⟩) hHeld ?_
              rotate_left
              · (intro w hSw; (try dsimp only at hSw); go_simp; try with_reducible rfl)
              simp only [Act.put, List.getElem_toArray, List.getElem_cons_succ, List.getElem_cons_zero, List.setIfInBounds_toArray, List.set_cons_zero, List.set_cons_succ]
              refine wpAnyH_take (i := 17) (v := ?_) (by rfl) (by kernel_rfl) (by kernel_rfl) (by kernel_rfl) (by exact fun _ _ _ h => h) (Or.inl ⟨by rfl, ?_⟩) hHeld ?_
              rotate_left
              · (intro w hSw; (try dsimp only at hSw); go_simp; try with_reducible rfl)
              simp only [Act.put, List.getElem_toArray, List.getElem_cons_succ, List.getElem_cons_zero, List.setIfInBounds_toArray, List.set_cons_zero, List.set_cons_succ]
              try simp only [Act.put, List.getElem_toArray, List.getElem_cons_succ, List.getElem_cons_zero, List.setIfInBounds_toArray, List.set_cons_zero, List.set_cons_succ]
              refine wpAnyH_done (by kernel_rfl) ?_ _
              clear hSm g0 g1 g2 g3 g4 g5 g6 x0 x1 x2 x3 x4 x5 x6
              have hs10 := hs9.below hb10
              have hW10 := hW9.below hb10
              have hN10 := hN.below hb10
              have hbO : Below R w4 w10 := (hbr.trans hRY9).trans (hb10.mono (Nat.le_of_lt hR9))
              have hwO : Below B w w10 := hwr.trans ((hRY9.trans (hb10.mono (Nat.le_of_lt hR9))).mono hB3)
              have hRO : Below R wo w10 := hRY9.trans (hb10.mono (Nat.le_of_lt hR9))
              have hR10 : R < w10.heap.size := hs10.rlt
              have HLW := Lib.hid hlW
              have hE0 := Ends.start hends
              clear hlW hends hs9 hW9 hN hX9 hb10 hR9 hRY9
              go_wp2_with fail
              go_loopw [16, 17] (fun k h wr => ∃ H K : Nat, k = .int .i64 ((K : Int) - 1) ∧ h = .int .i64 ((H : Int) - 1) ∧ H ≤ l.length ∧ K ≤ D.length ∧ Ends (alikeP xkey xlp) l D H K ∧ Below w10.heap.size w10 wr) (fun _ h _ => (intOf h + 1).toNat)
              case atStart => exact ⟨l.length, D.length, by have := HDN.out; go_num, by go_num, Nat.le_refl _, Nat.le_refl _, hE0, Below.refl _ _⟩
              case round =>
                obtain ⟨H, K, rfl, rfl, hH, hK, hE, hbi⟩ := hrel
                clear hE0
                cases H with
                | zero =>
                  obtain rfl := hE.over hK
                  rw [show (((0 : Nat) : Int) - 1) = -1 from rfl]
                  go_wp2_with fail
                  go_roundw
                  case rel => exact ⟨j + 1, last + 1, D ++ [nd], by go_num, by omega, hs10.below hbi, hids7, by omega, by omega, hbO.trans (hbi.mono (Nat.le_of_lt hR10))⟩
                  case measure => (first | (simp [intOf]; done) | (simp [intOf]; omega))
                | succ H =>
                  rw [show (((H + 1 : Nat) : Int) - 1) = (H : Int) from by omega]
                  cases K with
                  | zero =>
                    rw [show (((0 : Nat) : Int) - 1) = -1 from rfl]
                    go_wp2_with fail
                    go_roundw
                    case rel => exact ⟨j + 1, last + 1, D ++ [nd], by go_num, by omega, hs10.below hbi, hids7, by omega, by omega, hbO.trans (hbi.mono (Nat.le_of_lt hR10))⟩
                    case measure => (first | (simp [intOf]; done) | (simp [intOf]; omega))
                  | succ K =>
                    rw [show (((K + 1 : Nat) : Int) - 1) = (K : Int) from by omega]
                    have hXr := hX10.on hbi
                    have hWr := hW10.below hbi
                    have hWl : evsW.length = l.length := HLW.out
                    have hHl : H < l.length := by omega
                    obtain ⟨n, en⟩ : ∃ n, n = l[H]'hHl := ⟨_, rfl⟩
                    obtain ⟨q, eq⟩ : ∃ q, q = evsW[H]'(by omega) := ⟨_, rfl⟩
                    have hqx : q.x = n.x := by rw [eq, en]; exact hWr.get H (by omega) (by omega)
                    obtain ⟨bW, oW, rfl, hbW, g0, g1, g2, g3, g4, g5, g6⟩ := ev_at_k (Rd.own hWr.row) H (by omega)
                    have hel := hWr.lists q (by rw [eq]; exact List.getElem_mem _)
                    rw [← eq] at g0 g1 g2 g3 g4 g5 g6
                    clear eq hWl
                    obtain ⟨vpW, vfW, xW⟩ := q
                    simp only at hqx
                    subst hqx
                    replace g0 : wr.cell? ⟨bW, oW + H * 7, none⟩ = some (S n.x.key) := g0
                    replace g1 : wr.cell? ⟨bW, oW + H * 7 + 1, none⟩ = some vpW := g1
                    replace g2 : wr.cell? ⟨bW, oW + H * 7 + 2, none⟩ = some (.int .i64 n.x.st) := g2
                    replace g3 : wr.cell? ⟨bW, oW + H * 7 + 3, none⟩ = some vfW := g3
                    replace g4 : wr.cell? ⟨bW, oW + H * 7 + 4, none⟩ = some (S n.x.body) := g4
                    replace g5 : wr.cell? ⟨bW, oW + H * 7 + 5, none⟩ = some (.int .i64 n.x.asked) := g5
                    replace g6 : wr.cell? ⟨bW, oW + H * 7 + 6, none⟩ = some (.int .i64 n.x.came) := g6
                    have fp : Fs wr.heap.size wr vpW n.x.lp := Fs.own hel.1
                    have ff : Fs wr.heap.size wr vfW n.x.lf := Fs.own hel.2
                    have hRr : R < wr.heap.size := Nat.lt_of_lt_of_le hR10 hbi.size
                    have hRI : Below R wo wr := hRO.trans (hbi.mono (Nat.le_of_lt hR10))
                    have x0 : wr.cell? ⟨X, 0, none⟩ = some (S xkey) := hXr.cell 0
                    have x1 : wr.cell? ⟨X, 1, none⟩ = some (.slice axp xlp.length kxp) := hXr.cell 1
                    have HEN := Lib.hid en
                    clear en hel hWr
                    by_cases hk : n.x.key = xkey
                    · have hr : (n.x.key == xkey) = true := by simp [hk]
                      have hPS := PSame_any n.x.lp xlp vpW (.slice axp xlp.length kxp) wr.drew fp.drew ((hxp.below hRI.drew).mono (Nat.le_of_lt hRr))
                      obtain ⟨c, ec⟩ : ∃ c, c = (n.x.lp == xlp) := ⟨_, rfl⟩
                      rw [← ec] at hPS
                      have hal : alikeP xkey xlp n = c := by
                        unfold alikeP
                        rw [hr, ec]
                        rfl
                      have HEC := Lib.hid hal
                      clear hk ec hal
                      cases c with
                      | true =>
                        go_wp2_with fail
                        refine wp_region_held_drew (S := (fun wx => wx.cell? ⟨bW, oW + H * 7, none⟩ = some (S n.x.key) ∧ wx.cell? ⟨bW, oW + H * 7 + 1, none⟩ = some vpW ∧ wx.cell? ⟨X, 0, none⟩ = some (S xkey) ∧ wx.cell? ⟨X, 1, none⟩ = some (.slice axp xlp.length kxp))) (by kernel_rfl) ⟨g0, g1, x0, x1⟩ (fun hHeld => ?_)
                        refine wpAnyH_take (i := 0) (v := ?_) (by rfl) (by kernel_rfl) (by kernel_rfl) (by kernel_rfl) (by exact fun _ _ _ h => h) (Or.inl ⟨by rfl, ?_⟩) hHeld ?_
                        rotate_left
                        · (intro w hSw; (try dsimp only at hSw); go_simp; try with_reducible rfl)
                        simp only [Act.put, List.getElem_toArray, List.getElem_cons_succ, List.getElem_cons_zero, List.setIfInBounds_toArray, List.set_cons_zero, List.set_cons_succ]
                        refine wpAnyH_take (i := 1) (v := ?_) (by rfl) (by kernel_rfl) (by kernel_rfl) (by kernel_rfl) (by exact fun _ _ _ h => h) (Or.inl ⟨by rfl, ?_⟩) hHeld ?_
                        rotate_left
                        · (intro w hSw; (try dsimp only at hSw); go_simp; try with_reducible rfl)
                        simp only [Act.put, List.getElem_toArray, List.getElem_cons_succ, List.getElem_cons_zero, List.setIfInBounds_toArray, List.set_cons_zero, List.set_cons_succ]
                        refine wpAnyH_take (i := 2) (v := ?_) (by rfl) (by kernel_rfl) (by kernel_rfl) (by kernel_rfl) (by exact fun _ _ _ h => h) (Or.inl ⟨by rfl, ?_⟩) hHeld ?_
                        rotate_left
                        · (intro w hSw; (try dsimp only at hSw); go_simp; try with_reducible rfl)
                        simp only [Act.put, List.getElem_toArray, List.getElem_cons_succ, List.getElem_cons_zero, List.setIfInBounds_toArray, List.set_cons_zero, List.set_cons_succ]
                        refine wpAnyH_take (i := 3) (v := ?_) (by rfl) (by kernel_rfl) (by kernel_rfl) (by kernel_rfl) (by exact fun _ _ _ h => h) (Or.inl ⟨by rfl, ?_⟩) hHeld ?_
                        rotate_left
                        · (intro w hSw; (try dsimp only at hSw); go_simp; try with_reducible rfl)
                        simp only [Act.put, List.getElem_toArray, List.getElem_cons_succ, List.getElem_cons_zero, List.setIfInBounds_toArray, List.set_cons_zero, List.set_cons_succ]
                        refine wpAnyH_take (i := 4) (v := ?_) (by rfl) (by kernel_rfl) (by kernel_rfl) (by kernel_rfl) (by exact fun _ _ _ h => h) (Or.inl ⟨by rfl, ?_⟩) hHeld ?_
                        rotate_left
                        · (intro w hSw; (try dsimp only at hSw); go_simp; try with_reducible rfl)
                        simp only [Act.put, List.getElem_toArray, List.getElem_cons_succ, List.getElem_cons_zero, List.setIfInBounds_toArray, List.set_cons_zero, List.set_cons_succ]
                        refine wpAnyH_take (i := 5) (v := ?_) (by rfl) (by kernel_rfl) (by kernel_rfl) (by kernel_rfl) (by exact fun _ _ _ h => h) (Or.inl ⟨by rfl, ?_⟩) hHeld ?_
                        rotate_left
                        · (intro w hSw; (try dsimp only at hSw); go_simp; try with_reducible rfl)
                        simp only [Act.put, List.getElem_toArray, List.getElem_cons_succ, List.getElem_cons_zero, List.setIfInBounds_toArray, List.set_cons_zero, List.set_cons_succ]
                        refine wpAnyH_take (i := 6) (v := ?_) (by rfl) (by kernel_rfl) (by kernel_rfl) (by kernel_rfl) (by exact fun _ _ _ h => h) (Or.inl ⟨by rfl, ?_⟩) hHeld ?_
                        rotate_left
                        · (intro w hSw; (try dsimp only at hSw); go_simp; try with_reducible rfl)
                        simp only [Act.put, List.getElem_toArray, List.getElem_cons_succ, List.getElem_cons_zero, List.setIfInBounds_toArray, List.set_cons_zero, List.set_cons_succ]
                        refine wpAnyH_take (i := 7) (v := ?_) (by rfl) (by kernel_rfl) (by kernel_rfl) (by kernel_rfl) (by exact fun _ _ _ h => h) (Or.inl ⟨by rfl, ?_⟩) hHeld ?_
                        rotate_left
                        · (intro w hSw; (try dsimp only at hSw); go_simp; try with_reducible rfl)
                        simp only [Act.put, List.getElem_toArray, List.getElem_cons_succ, List.getElem_cons_zero, List.setIfInBounds_toArray, List.set_cons_zero, List.set_cons_succ]
                        refine wpAnyH_take (i := 8) (v := ?_) (by rfl) (by kernel_rfl) (by kernel_rfl) (by kernel_rfl) (by exact fun _ _ _ h => h) (Or.inl ⟨by rfl, ?_⟩) hHeld ?_
                        rotate_left
                        · (intro w hSw; (try dsimp only at hSw); go_simp; try with_reducible rfl)
                        simp only [Act.put, List.getElem_toArray, List.getElem_cons_succ, List.getElem_cons_zero, List.setIfInBounds_toArray, List.set_cons_zero, List.set_cons_succ]
                        refine wpAnyH_take (i := 9) (v := ?_) (by rfl) (by kernel_rfl) (by kernel_rfl) (by kernel_rfl) (by exact fun _ _ _ h => h) (Or.inl ⟨by rfl, ?_⟩) hHeld ?_
                        rotate_left
                        · (intro w hSw; (try dsimp only at hSw); go_simp; try with_reducible rfl)
                        simp only [Act.put, List.getElem_toArray, List.getElem_cons_succ, List.getElem_cons_zero, List.setIfInBounds_toArray, List.set_cons_zero, List.set_cons_succ]
                        refine wpAnyH_take (i := 10) (v := ?_) (by rfl) (by kernel_rfl) (by kernel_rfl) (by kernel_rfl) (by exact fun _ _ _ h => h) (Or.inl ⟨by rfl, ?_⟩) hHeld ?_
                        rotate_left
                        · (intro w hSw; (try dsimp only at hSw); go_simp; try with_reducible rfl)
                        simp only [Act.put, List.getElem_toArray, List.getElem_cons_succ, List.getElem_cons_zero, List.setIfInBounds_toArray, List.set_cons_zero, List.set_cons_succ]
                        refine wpAnyH_take (i := 11) (v := ?_) (by rfl) (by kernel_rfl) (by kernel_rfl) (by kernel_rfl) (by exact fun _ _ _ h => h) (Or.inl ⟨by rfl, ?_⟩) hHeld ?_
                        rotate_left
                        · (intro w hSw; (try dsimp only at hSw); go_simp; try with_reducible rfl)
                        simp only [Act.put, List.getElem_toArray, List.getElem_cons_succ, List.getElem_cons_zero, List.setIfInBounds_toArray, List.set_cons_zero, List.set_cons_succ]
                        refine wpAnyH_take (i := 12) (v := ?_) (by rfl) (by kernel_rfl) (by kernel_rfl) (by kernel_rfl) (by exact fun _ _ _ h => h) (Or.inl ⟨by rfl, ?_⟩) hHeld ?_
                        rotate_left
                        · (intro w hSw; (try dsimp only at hSw); go_simp; try with_reducible rfl)
                        simp only [Act.put, List.getElem_toArray, List.getElem_cons_succ, List.getElem_cons_zero, List.setIfInBounds_toArray, List.set_cons_zero, List.set_cons_succ]
                        refine wpAnyH_take (i := 13) (v := ?_) (by rfl) (by kernel_rfl) (by kernel_rfl) (by kernel_rfl) (by exact fun _ _ _ h => h) (Or.inl ⟨by rfl, ?_⟩) hHeld ?_
                        rotate_left
                        · (intro w hSw; (try dsimp only at hSw); go_simp; try with_reducible rfl)
                        simp only [Act.put, List.getElem_toArray, List.getElem_cons_succ, List.getElem_cons_zero, List.setIfInBounds_toArray, List.set_cons_zero, List.set_cons_succ]
                        refine wpAnyH_take (i := 14) (v := ?_) (by rfl) (by kernel_rfl) (by kernel_rfl) (by kernel_rfl) (by exact fun _ _ _ h => h) (Or.inl ⟨by rfl, ?_⟩) hHeld ?_
                        rotate_left
                        · (intro w hSw; (try dsimp only at hSw); go_simp; try with_reducible rfl)
                        simp only [Act.put, List.getElem_toArray, List.getElem_cons_succ, List.getElem_cons_zero, List.setIfInBounds_toArray, List.set_cons_zero, List.set_cons_succ]
                        refine wpAnyH_take (i := 15) (v := ?_) (by rfl) (by kernel_rfl) (by kernel_rfl) (by kernel_rfl) (by exact fun _ _ _ h => h) (Or.inl ⟨by rfl, ?_⟩) hHeld ?_
                        rotate_left
                        · (intro w hSw; (try dsimp only at hSw); go_simp; try with_reducible rfl)
                        simp only [Act.put, List.getElem_toArray, List.getElem_cons_succ, List.getElem_cons_zero, List.setIfInBounds_toArray, List.set_cons_zero, List.set_cons_succ]
                        refine wpAnyH_ready (rs := [16]) (by kernel_rfl) (by simp) ?_
                        refine AllReadyH.cons (by rfl) (fun K hK => ?_) AllReadyH.nil
                        go_simp
                        (with_reducible refine hPS.mono ?_); rintro e w11 ⟨rfl, hb11⟩; replace hb11 := Bl.undrew hb11; have hXe := hXr.on hb11; replace x0 : w11.cell? ⟨X, 0, none⟩ = some (S xkey) := hXe.cell 0; replace x1 : w11.cell? ⟨X, 1, none⟩ = some (.slice axp xlp.length kxp) := hXe.cell 1; replace g0 := ((bcell hb11).1 bW (oW + H * 7) hbW).trans g0; replace g1 := ((bcell hb11).1 bW (oW + H * 7 + 1) hbW).trans g1
                        refine hK.out _ _ ⟨g0, g1, x0, x1⟩ (fun hHeld => ?_)
                        clear hK K
                        try simp only [Act.put, List.getElem_toArray, List.getElem_cons_succ, List.getElem_cons_zero, List.setIfInBounds_toArray, List.set_cons_zero, List.set_cons_succ]
                        refine wpAnyH_take (i := 17) (v := ?_) (by rfl) (by kernel_rfl) (by kernel_rfl) (by kernel_rfl) (by exact fun _ _ _ h => h) (Or.inl ⟨by rfl, ?_⟩) hHeld ?_
                        rotate_left
                        · (intro w hSw; (try dsimp only at hSw); go_simp; try with_reducible rfl)
                        simp only [Act.put, List.getElem_toArray, List.getElem_cons_succ, List.getElem_cons_zero, List.setIfInBounds_toArray, List.set_cons_zero, List.set_cons_succ]
                        try simp only [Act.put, List.getElem_toArray, List.getElem_cons_succ, List.getElem_cons_zero, List.setIfInBounds_toArray, List.set_cons_zero, List.set_cons_succ]
                        refine wpAnyH_done (by kernel_rfl) ?_ _
                        go_wp2_with fail
                        go_roundw
                        case rel => exact ⟨H, K + 1, by go_num, by go_num, by omega, hK, hE.skip (by omega) (by rw [← HEN.out]; exact HEC.out), hbi.trans (hb11.mono hbi.size)⟩
                        case measure => (first | (simp [intOf]; done) | (simp [intOf]; omega))
                      | false =>
                        go_wp2_with fail
                        refine wp_region_held_drew (S := (fun wx => wx.cell? ⟨bW, oW + H * 7, none⟩ = some (S n.x.key) ∧ wx.cell? ⟨bW, oW + H * 7 + 1, none⟩ = some vpW ∧ wx.cell? ⟨X, 0, none⟩ = some (S xkey) ∧ wx.cell? ⟨X, 1, none⟩ = some (.slice axp xlp.length kxp))) (by kernel_rfl) ⟨g0, g1, x0, x1⟩ (fun hHeld => ?_)
                        refine wpAnyH_take (i := 0) (v := ?_) (by rfl) (by kernel_rfl) (by kernel_rfl) (by kernel_rfl) (by exact fun _ _ _ h => h) (Or.inl ⟨by rfl, ?_⟩) hHeld ?_
                        rotate_left
                        · (intro w hSw; (try dsimp only at hSw); go_simp; try with_reducible rfl)
                        simp only [Act.put, List.getElem_toArray, List.getElem_cons_succ, List.getElem_cons_zero, List.setIfInBounds_toArray, List.set_cons_zero, List.set_cons_succ]
                        refine wpAnyH_take (i := 1) (v := ?_) (by rfl) (by kernel_rfl) (by kernel_rfl) (by kernel_rfl) (by exact fun _ _ _ h => h) (Or.inl ⟨by rfl, ?_⟩) hHeld ?_
                        rotate_left
                        · (intro w hSw; (try dsimp only at hSw); go_simp; try with_reducible rfl)
                        simp only [Act.put, List.getElem_toArray, List.getElem_cons_succ, List.getElem_cons_zero, List.setIfInBounds_toArray, List.set_cons_zero, List.set_cons_succ]
                        refine wpAnyH_take (i := 2) (v := ?_) (by rfl) (by kernel_rfl) (by kernel_rfl) (by kernel_rfl) (by exact fun _ _ _ h => h) (Or.inl ⟨by rfl, ?_⟩) hHeld ?_
                        rotate_left
                        · (intro w hSw; (try dsimp only at hSw); go_simp; try with_reducible rfl)
                        simp only [Act.put, List.getElem_toArray, List.getElem_cons_succ, List.getElem_cons_zero, List.setIfInBounds_toArray, List.set_cons_zero, List.set_cons_succ]
                        refine wpAnyH_take (i := 3) (v := ?_) (by rfl) (by kernel_rfl) (by kernel_rfl) (by kernel_rfl) (by exact fun _ _ _ h => h) (Or.inl ⟨by rfl, ?_⟩) hHeld ?_
                        rotate_left
                        · (intro w hSw; (try dsimp only at hSw); go_simp; try with_reducible rfl)
                        simp only [Act.put, List.getElem_toArray, List.getElem_cons_succ, List.getElem_cons_zero, List.setIfInBounds_toArray, List.set_cons_zero, List.set_cons_succ]
                        refine wpAnyH_take (i := 4) (v := ?_) (by rfl) (by kernel_rfl) (by kernel_rfl) (by kernel_rfl) (by exact fun _ _ _ h => h) (Or.inl ⟨by rfl, ?_⟩) hHeld ?_
                        rotate_left
                        · (intro w hSw; (try dsimp only at hSw); go_simp; try with_reducible rfl)
                        simp only [Act.put, List.getElem_toArray, List.getElem_cons_succ, List.getElem_cons_zero, List.setIfInBounds_toArray, List.set_cons_zero, List.set_cons_succ]
                        refine wpAnyH_take (i := 5) (v := ?_) (by rfl) (by kernel_rfl) (by kernel_rfl) (by kernel_rfl) (by exact fun _ _ _ h => h) (Or.inl ⟨by rfl, ?_⟩) hHeld ?_
                        rotate_left
                        · (intro w hSw; (try dsimp only at hSw); go_simp; try with_reducible rfl)
                        simp only [Act.put, List.getElem_toArray, List.getElem_cons_succ, List.getElem_cons_zero, List.setIfInBounds_toArray, List.set_cons_zero, List.set_cons_succ]
                        refine wpAnyH_take (i := 6) (v := ?_) (by rfl) (by kernel_rfl) (by kernel_rfl) (by kernel_rfl) (by exact fun _ _ _ h => h) (Or.inl ⟨by rfl, ?_⟩) hHeld ?_
                        rotate_left
                        · (intro w hSw; (try dsimp only at hSw); go_simp; try with_reducible rfl)
                        simp only [Act.put, List.getElem_toArray, List.getElem_cons_succ, List.getElem_cons_zero, List.setIfInBounds_toArray, List.set_cons_zero, List.set_cons_succ]
                        refine wpAnyH_take (i := 7) (v := ?_) (by rfl) (by kernel_rfl) (by kernel_rfl) (by kernel_rfl) (by exact fun _ _ _ h => h) (Or.inl ⟨by rfl, ?_⟩) hHeld ?_
                        rotate_left
                        · (intro w hSw; (try dsimp only at hSw); go_simp; try with_reducible rfl)
                        simp only [Act.put, List.getElem_toArray, List.getElem_cons_succ, List.getElem_cons_zero, List.setIfInBounds_toArray, List.set_cons_zero, List.set_cons_succ]
                        refine wpAnyH_take (i := 8) (v := ?_) (by rfl) (by kernel_rfl) (by kernel_rfl) (by kernel_rfl) (by exact fun _ _ _ h => h) (Or.inl ⟨by rfl, ?_⟩) hHeld ?_
                        rotate_left
                        · (intro w hSw; (try dsimp only at hSw); go_simp; try with_reducible rfl)
                        simp only [Act.put, List.getElem_toArray, List.getElem_cons_succ, List.getElem_cons_zero, List.setIfInBounds_toArray, List.set_cons_zero, List.set_cons_succ]
                        refine wpAnyH_take (i := 9) (v := ?_) (by rfl) (by kernel_rfl) (by kernel_rfl) (by kernel_rfl) (by exact fun _ _ _ h => h) (Or.inl ⟨by rfl, ?_⟩) hHeld ?_
                        rotate_left
                        · (intro w hSw; (try dsimp only at hSw); go_simp; try with_reducible rfl)
                        simp only [Act.put, List.getElem_toArray, List.getElem_cons_succ, List.getElem_cons_zero, List.setIfInBounds_toArray, List.set_cons_zero, List.set_cons_succ]
                        refine wpAnyH_take (i := 10) (v := ?_) (by rfl) (by kernel_rfl) (by kernel_rfl) (by kernel_rfl) (by exact fun _ _ _ h => h) (Or.inl ⟨by rfl, ?_⟩) hHeld ?_
                        rotate_left
                        · (intro w hSw; (try dsimp only at hSw); go_simp; try with_reducible rfl)
                        simp only [Act.put, List.getElem_toArray, List.getElem_cons_succ, List.getElem_cons_zero, List.setIfInBounds_toArray, List.set_cons_zero, List.set_cons_succ]
                        refine wpAnyH_take (i := 11) (v := ?_) (by rfl) (by kernel_rfl) (by kernel_rfl) (by kernel_rfl) (by exact fun _ _ _ h => h) (Or.inl ⟨by rfl, ?_⟩) hHeld ?_
                        rotate_left
                        · (intro w hSw; (try dsimp only at hSw); go_simp; try with_reducible rfl)
                        simp only [Act.put, List.getElem_toArray, List.getElem_cons_succ, List.getElem_cons_zero, List.setIfInBounds_toArray, List.set_cons_zero, List.set_cons_succ]
                        refine wpAnyH_take (i := 12) (v := ?_) (by rfl) (by kernel_rfl) (by kernel_rfl) (by kernel_rfl) (by exact fun _ _ _ h => h) (Or.inl ⟨by rfl, ?_⟩) hHeld ?_
                        rotate_left
                        · (intro w hSw; (try dsimp only at hSw); go_simp; try with_reducible rfl)
                        simp only [Act.put, List.getElem_toArray, List.getElem_cons_succ, List.getElem_cons_zero, List.setIfInBounds_toArray, List.set_cons_zero, List.set_cons_succ]
                        refine wpAnyH_take (i := 13) (v := ?_) (by rfl) (by kernel_rfl) (by kernel_rfl) (by kernel_rfl) (by exact fun _ _ _ h => h) (Or.inl ⟨by rfl, ?_⟩) hHeld ?_
                        rotate_left
                        · (intro w hSw; (try dsimp only at hSw); go_simp; try with_reducible rfl)
                        simp only [Act.put, List.getElem_toArray, List.getElem_cons_succ, List.getElem_cons_zero, List.setIfInBounds_toArray, List.set_cons_zero, List.set_cons_succ]
                        refine wpAnyH_take (i := 14) (v := ?_) (by rfl) (by kernel_rfl) (by kernel_rfl) (by kernel_rfl) (by exact fun _ _ _ h => h) (Or.inl ⟨by rfl, ?_⟩) hHeld ?_
                        rotate_left
                        · (intro w hSw; (try dsimp only at hSw); go_simp; try with_reducible rfl)
                        simp only [Act.put, List.getElem_toArray, List.getElem_cons_succ, List.getElem_cons_zero, List.setIfInBounds_toArray, List.set_cons_zero, List.set_cons_succ]
                        refine wpAnyH_take (i := 15) (v := ?_) (by rfl) (by kernel_rfl) (by kernel_rfl) (by kernel_rfl) (by exact fun _ _ _ h => h) (Or.inl ⟨by rfl, ?_⟩) hHeld ?_
                        rotate_left
                        · (intro w hSw; (try dsimp only at hSw); go_simp; try with_reducible rfl)
                        simp only [Act.put, List.getElem_toArray, List.getElem_cons_succ, List.getElem_cons_zero, List.setIfInBounds_toArray, List.set_cons_zero, List.set_cons_succ]
                        refine wpAnyH_ready (rs := [16]) (by kernel_rfl) (by simp) ?_
                        refine AllReadyH.cons (by rfl) (fun K hK => ?_) AllReadyH.nil
                        go_simp
                        (with_reducible refine hPS.mono ?_); rintro e w11 ⟨rfl, hb11⟩; replace hb11 := Bl.undrew hb11; have hXe := hXr.on hb11; replace x0 : w11.cell? ⟨X, 0, none⟩ = some (S xkey) := hXe.cell 0; replace x1 : w11.cell? ⟨X, 1, none⟩ = some (.slice axp xlp.length kxp) := hXe.cell 1; replace g0 := ((bcell hb11).1 bW (oW + H * 7) hbW).trans g0; replace g1 := ((bcell hb11).1 bW (oW + H * 7 + 1) hbW).trans g1
                        refine hK.out _ _ ⟨g0, g1, x0, x1⟩ (fun hHeld => ?_)
                        clear hK K
                        try simp only [Act.put, List.getElem_toArray, List.getElem_cons_succ, List.getElem_cons_zero, List.setIfInBounds_toArray, List.set_cons_zero, List.set_cons_succ]
                        refine wpAnyH_take (i := 17) (v := ?_) (by rfl) (by kernel_rfl) (by kernel_rfl) (by kernel_rfl) (by exact fun _ _ _ h => h) (Or.inl ⟨by rfl, ?_⟩) hHeld ?_
                        rotate_left
                        · (intro w hSw; (try dsimp only at hSw); go_simp; try with_reducible rfl)
                        simp only [Act.put, List.getElem_toArray, List.getElem_cons_succ, List.getElem_cons_zero, List.setIfInBounds_toArray, List.set_cons_zero, List.set_cons_succ]
                        try simp only [Act.put, List.getElem_toArray, List.getElem_cons_succ, List.getElem_cons_zero, List.setIfInBounds_toArray, List.set_cons_zero, List.set_cons_succ]
                        refine wpAnyH_done (by kernel_rfl) ?_ _
                        replace hbi := hbi.trans (hb11.mono hbi.size)
                        clear hPS hr
                        have hXs := hXr.on hb11
                        have hNr := hN10.below hbi
                        have hNl : evsN.length = dn + 1 := HLN.out
                        have hDl : D.length = dn := HDN.out.symm
                        have hKl : K < D.length := by omega
                        obtain ⟨hst, hE2⟩ := hE.step hHl hKl (by rw [← HEN.out]; exact HEC.out)
                        rw [← HEN.out] at hst
                        obtain ⟨p, ep⟩ : ∃ p, p = evsN[K]'(by omega) := ⟨_, rfl⟩
                        have hpx : p.x = n.x := by
                          rw [ep, hst, hNr.get K (by omega) (by rw [List.length_append]; omega)]
                          congr 1
                          exact List.getElem_append_left hKl
                        obtain ⟨bN2, oN2, hbo, hbN2, r0, r1, r2, r3, r4, r5, r6⟩ := ev_at_k (Rd.own hNr.row) K (by omega)
                        simp only [Option.some.injEq, Addr.mk.injEq, and_true] at hbo
                        obtain ⟨rfl, rfl⟩ := hbo
                        have hbNQ := hbN2
                        have hel := hNr.lists p (by rw [ep]; exact List.getElem_mem _)
                        rw [← ep] at r0 r1 r2 r3 r4 r5 r6
                        have hKd : K < dn + 1 := by omega
                        have hKd1 : K ≤ dn := by omega
                        have hKd2 : (K : Int) < (dn : Int) + 1 := by omega
                        clear ep hst hNl hDl hNr
                        obtain ⟨vpN, vfN, xN⟩ := p
                        simp only at hpx
                        subst hpx
                        replace r0 : w11.cell? ⟨bN, oN + K * 7, none⟩ = some (S n.x.key) := r0
                        replace r1 : w11.cell? ⟨bN, oN + K * 7 + 1, none⟩ = some (vpN) := r1
                        replace r2 : w11.cell? ⟨bN, oN + K * 7 + 2, none⟩ = some (.int .i64 n.x.st) := r2
                        replace r3 : w11.cell? ⟨bN, oN + K * 7 + 3, none⟩ = some (vfN) := r3
                        replace r4 : w11.cell? ⟨bN, oN + K * 7 + 4, none⟩ = some (S n.x.body) := r4
                        replace r5 : w11.cell? ⟨bN, oN + K * 7 + 5, none⟩ = some (.int .i64 n.x.asked) := r5
                        replace r6 : w11.cell? ⟨bN, oN + K * 7 + 6, none⟩ = some (.int .i64 n.x.came) := r6
                        have q0 := g0
                        have q1 := g1
                        have q2 := ((bcell hb11).1 bW (oW + H * 7 + 2) hbW).trans g2
                        have q3 := ((bcell hb11).1 bW (oW + H * 7 + 3) hbW).trans g3
                        have q4 := ((bcell hb11).1 bW (oW + H * 7 + 4) hbW).trans g4
                        have q5 := ((bcell hb11).1 bW (oW + H * 7 + 5) hbW).trans g5
                        have q6 := ((bcell hb11).1 bW (oW + H * 7 + 6) hbW).trans g6
                        have fp' := fp.below hb11
                        have ff' := ff.below hb11
                        have hSm := refSame_eq ⟨n.x.key, vpW, n.x.st, vfW, n.x.body, n.x.asked, n.x.came⟩ vpN vfN n.x.lp n.x.lf w11.drew (show Fs w11.drew.heap.size w11.drew vpW n.x.lp from (fp'.mono hb11.size).drew) (show Fs w11.drew.heap.size w11.drew vfW n.x.lf from (ff'.mono hb11.size).drew) (show Fs w11.drew.heap.size w11.drew vpN n.x.lp from Fs.own hel.1) (show Fs w11.drew.heap.size w11.drew vfN n.x.lf from Fs.own hel.2)
                        simp only [En.val] at hSm
                        clear hel fp ff fp' ff' g0 g1 g2 g3 g4 g5 g6 x0 x1 hXs hXe hXr hRr hRI
                        go_wp2_with fail
                        go_region_held3 (fun wx => wx.cell? ⟨bW, oW + H * 7, none⟩ = some (S n.x.key) ∧ wx.cell? ⟨bW, oW + H * 7 + 1, none⟩ = some (vpW) ∧ wx.cell? ⟨bW, oW + H * 7 + 2, none⟩ = some (.int .i64 n.x.st) ∧ wx.cell? ⟨bW, oW + H * 7 + 3, none⟩ = some (vfW) ∧ wx.cell? ⟨bW, oW + H * 7 + 4, none⟩ = some (S n.x.body) ∧ wx.cell? ⟨bW, oW + H * 7 + 5, none⟩ = some (.int .i64 n.x.asked) ∧ wx.cell? ⟨bW, oW + H * 7 + 6, none⟩ = some (.int .i64 n.x.came) ∧ wx.cell? ⟨bN, oN + K * 7, none⟩ = some (S n.x.key) ∧ wx.cell? ⟨bN, oN + K * 7 + 1, none⟩ = some (vpN) ∧ wx.cell? ⟨bN, oN + K * 7 + 2, none⟩ = some (.int .i64 n.x.st) ∧ wx.cell? ⟨bN, oN + K * 7 + 3, none⟩ = some (vfN) ∧ wx.cell? ⟨bN, oN + K * 7 + 4, none⟩ = some (S n.x.body) ∧ wx.cell? ⟨bN, oN + K * 7 + 5, none⟩ = some (.int .i64 n.x.asked) ∧ wx.cell? ⟨bN, oN + K * 7 + 6, none⟩ = some (.int .i64 n.x.came))
                          (first | go_keep)
                          ((go_at_call 15; (with_reducible refine hSm.mono ?_); rintro e w12 ⟨rfl, hb12⟩; replace hb12 := Bl.undrew hb12; replace q0 := ((bcell hb12).1 bW (oW + H * 7) (Nat.lt_of_lt_of_le hbW hb11.size)).trans q0; replace q1 := ((bcell hb12).1 bW (oW + H * 7 + 1) (Nat.lt_of_lt_of_le hbW hb11.size)).trans q1; replace q2 := ((bcell hb12).1 bW (oW + H * 7 + 2) (Nat.lt_of_lt_of_le hbW hb11.size)).trans q2; replace q3 := ((bcell hb12).1 bW (oW + H * 7 + 3) (Nat.lt_of_lt_of_le hbW hb11.size)).trans q3; replace q4 := ((bcell hb12).1 bW (oW + H * 7 + 4) (Nat.lt_of_lt_of_le hbW hb11.size)).trans q4; replace q5 := ((bcell hb12).1 bW (oW + H * 7 + 5) (Nat.lt_of_lt_of_le hbW hb11.size)).trans q5; replace q6 := ((bcell hb12).1 bW (oW + H * 7 + 6) (Nat.lt_of_lt_of_le hbW hb11.size)).trans q6; replace r0 := ((bcell hb12).1 bN (oN + K * 7) hbNQ).trans r0; replace r1 := ((bcell hb12).1 bN (oN + K * 7 + 1) hbNQ).trans r1; replace r2 := ((bcell hb12).1 bN (oN + K * 7 + 2) hbNQ).trans r2; replace r3 := ((bcell hb12).1 bN (oN + K * 7 + 3) hbNQ).trans r3; replace r4 := ((bcell hb12).1 bN (oN + K * 7 + 4) hbNQ).trans r4; replace r5 := ((bcell hb12).1 bN (oN + K * 7 + 5) hbNQ).trans r5; replace r6 := ((bcell hb12).1 bN (oN + K * 7 + 6) hbNQ).trans r6))
                        all_goals
                          go_wp2_with fail
                          go_roundw
                          case rel => exact ⟨H, K, by go_num, by go_num, by omega, by omega, hE2, hbi.trans (hb12.mono hbi.size)⟩
                          case measure => (first | (simp [intOf]; done) | (simp [intOf]; omega))
                    · have hr : (n.x.key == xkey) = false := by simp [hk]
                      have HEC := Lib.hid (show alikeP xkey xlp n = false by unfold alikeP; rw [hr]; rfl)
                      clear hk
                      obtain ⟨w11, e11⟩ : ∃ w11 : World, w11 = wr.drew := ⟨_, rfl⟩
                      have hb11 : Below wr.heap.size wr w11 := by rw [e11]; exact (Below.refl _ _).drew
                      have hXe := hXr.on hb11
                      go_wp2_with fail
                      refine wp_region_held_drew (S := (fun wx => wx.cell? ⟨bW, oW + H * 7, none⟩ = some (S n.x.key) ∧ wx.cell? ⟨bW, oW + H * 7 + 1, none⟩ = some vpW ∧ wx.cell? ⟨X, 0, none⟩ = some (S xkey) ∧ wx.cell? ⟨X, 1, none⟩ = some (.slice axp xlp.length kxp))) (by kernel_rfl) ⟨g0, g1, x0, x1⟩ (fun hHeld => ?_)
                      refine wpAnyH_take (i := 0) (v := ?_) (by rfl) (by kernel_rfl) (by kernel_rfl) (by kernel_rfl) (by exact fun _ _ _ h => h) (Or.inl ⟨by rfl, ?_⟩) hHeld ?_
                      rotate_left
                      · (intro w hSw; (try dsimp only at hSw); go_simp; try with_reducible rfl)
                      simp only [Act.put, List.getElem_toArray, List.getElem_cons_succ, List.getElem_cons_zero, List.setIfInBounds_toArray, List.set_cons_zero, List.set_cons_succ]
                      refine wpAnyH_take (i := 1) (v := ?_) (by rfl) (by kernel_rfl) (by kernel_rfl) (by kernel_rfl) (by exact fun _ _ _ h => h) (Or.inl ⟨by rfl, ?_⟩) hHeld ?_
                      rotate_left
                      · (intro w hSw; (try dsimp only at hSw); go_simp; try with_reducible rfl)
                      simp only [Act.put, List.getElem_toArray, List.getElem_cons_succ, List.getElem_cons_zero, List.setIfInBounds_toArray, List.set_cons_zero, List.set_cons_succ]
                      refine wpAnyH_take (i := 2) (v := ?_) (by rfl) (by kernel_rfl) (by kernel_rfl) (by kernel_rfl) (by exact fun _ _ _ h => h) (Or.inl ⟨by rfl, ?_⟩) hHeld ?_
                      rotate_left
                      · (intro w hSw; (try dsimp only at hSw); go_simp; try with_reducible rfl)
                      simp only [Act.put, List.getElem_toArray, List.getElem_cons_succ, List.getElem_cons_zero, List.setIfInBounds_toArray, List.set_cons_zero, List.set_cons_succ]
                      refine wpAnyH_take (i := 3) (v := ?_) (by rfl) (by kernel_rfl) (by kernel_rfl) (by kernel_rfl) (by exact fun _ _ _ h => h) (Or.inl ⟨by rfl, ?_⟩) hHeld ?_
                      rotate_left
                      · (intro w hSw; (try dsimp only at hSw); go_simp; try with_reducible rfl)
                      simp only [Act.put, List.getElem_toArray, List.getElem_cons_succ, List.getElem_cons_zero, List.setIfInBounds_toArray, List.set_cons_zero, List.set_cons_succ]
                      refine wpAnyH_take (i := 4) (v := ?_) (by rfl) (by kernel_rfl) (by kernel_rfl) (by kernel_rfl) (by exact fun _ _ _ h => h) (Or.inl ⟨by rfl, ?_⟩) hHeld ?_
                      rotate_left
                      · (intro w hSw; (try dsimp only at hSw); go_simp; try with_reducible rfl)
                      simp only [Act.put, List.getElem_toArray, List.getElem_cons_succ, List.getElem_cons_zero, List.setIfInBounds_toArray, List.set_cons_zero, List.set_cons_succ]
                      refine wpAnyH_take (i := 5) (v := ?_) (by rfl) (by kernel_rfl) (by kernel_rfl) (by kernel_rfl) (by exact fun _ _ _ h => h) (Or.inl ⟨by rfl, ?_⟩) hHeld ?_
                      rotate_left
                      · (intro w hSw; (try dsimp only at hSw); go_simp; try with_reducible rfl)
                      simp only [Act.put, List.getElem_toArray, List.getElem_cons_succ, List.getElem_cons_zero, List.setIfInBounds_toArray, List.set_cons_zero, List.set_cons_succ]
                      refine wpAnyH_take (i := 6) (v := ?_) (by rfl) (by kernel_rfl) (by kernel_rfl) (by kernel_rfl) (by exact fun _ _ _ h => h) (Or.inl ⟨by rfl, ?_⟩) hHeld ?_
                      rotate_left
                      · (intro w hSw; (try dsimp only at hSw); go_simp; try with_reducible rfl)
                      simp only [Act.put, List.getElem_toArray, List.getElem_cons_succ, List.getElem_cons_zero, List.setIfInBounds_toArray, List.set_cons_zero, List.set_cons_succ]
                      refine wpAnyH_take (i := 7) (v := ?_) (by rfl) (by kernel_rfl) (by kernel_rfl) (by kernel_rfl) (by exact fun _ _ _ h => h) (Or.inl ⟨by rfl, ?_⟩) hHeld ?_
                      rotate_left
                      · (intro w hSw; (try dsimp only at hSw); go_simp; try with_reducible rfl)
                      simp only [Act.put, List.getElem_toArray, List.getElem_cons_succ, List.getElem_cons_zero, List.setIfInBounds_toArray, List.set_cons_zero, List.set_cons_succ]
                      refine wpAnyH_take (i := 8) (v := ?_) (by rfl) (by kernel_rfl) (by kernel_rfl) (by kernel_rfl) (by exact fun _ _ _ h => h) (Or.inl ⟨by rfl, ?_⟩) hHeld ?_
                      rotate_left
                      · (intro w hSw; (try dsimp only at hSw); go_simp; try with_reducible rfl)
                      simp only [Act.put, List.getElem_toArray, List.getElem_cons_succ, List.getElem_cons_zero, List.setIfInBounds_toArray, List.set_cons_zero, List.set_cons_succ]
                      refine wpAnyH_take (i := 9) (v := undef) (by rfl) (by kernel_rfl) (by kernel_rfl) (by kernel_rfl) (by exact fun _ _ _ h => h) (Or.inr ⟨by rfl, rfl⟩) hHeld ?_
                      simp only [Act.put, List.getElem_toArray, List.getElem_cons_succ, List.getElem_cons_zero, List.setIfInBounds_toArray, List.set_cons_zero, List.set_cons_succ]
                      refine wpAnyH_take (i := 10) (v := undef) (by rfl) (by kernel_rfl) (by kernel_rfl) (by kernel_rfl) (by exact fun _ _ _ h => h) (Or.inr ⟨by rfl, rfl⟩) hHeld ?_
                      simp only [Act.put, List.getElem_toArray, List.getElem_cons_succ, List.getElem_cons_zero, List.setIfInBounds_toArray, List.set_cons_zero, List.set_cons_succ]
                      refine wpAnyH_take (i := 11) (v := undef) (by rfl) (by kernel_rfl) (by kernel_rfl) (by kernel_rfl) (by exact fun _ _ _ h => h) (Or.inr ⟨by rfl, rfl⟩) hHeld ?_
                      simp only [Act.put, List.getElem_toArray, List.getElem_cons_succ, List.getElem_cons_zero, List.setIfInBounds_toArray, List.set_cons_zero, List.set_cons_succ]
                      refine wpAnyH_take (i := 12) (v := undef) (by rfl) (by kernel_rfl) (by kernel_rfl) (by kernel_rfl) (by exact fun _ _ _ h => h) (Or.inr ⟨by rfl, rfl⟩) hHeld ?_
                      simp only [Act.put, List.getElem_toArray, List.getElem_cons_succ, List.getElem_cons_zero, List.setIfInBounds_toArray, List.set_cons_zero, List.set_cons_succ]
                      refine wpAnyH_take (i := 13) (v := undef) (by rfl) (by kernel_rfl) (by kernel_rfl) (by kernel_rfl) (by exact fun _ _ _ h => h) (Or.inr ⟨by rfl, rfl⟩) hHeld ?_
                      simp only [Act.put, List.getElem_toArray, List.getElem_cons_succ, List.getElem_cons_zero, List.setIfInBounds_toArray, List.set_cons_zero, List.set_cons_succ]
                      refine wpAnyH_take (i := 14) (v := undef) (by rfl) (by kernel_rfl) (by kernel_rfl) (by kernel_rfl) (by exact fun _ _ _ h => h) (Or.inr ⟨by rfl, rfl⟩) hHeld ?_
                      simp only [Act.put, List.getElem_toArray, List.getElem_cons_succ, List.getElem_cons_zero, List.setIfInBounds_toArray, List.set_cons_zero, List.set_cons_succ]
                      refine wpAnyH_take (i := 15) (v := undef) (by rfl) (by kernel_rfl) (by kernel_rfl) (by kernel_rfl) (by exact fun _ _ _ h => h) (Or.inr ⟨by rfl, rfl⟩) hHeld ?_
                      simp only [Act.put, List.getElem_toArray, List.getElem_cons_succ, List.getElem_cons_zero, List.setIfInBounds_toArray, List.set_cons_zero, List.set_cons_succ]
                      refine wpAnyH_take (i := 16) (v := undef) (by rfl) (by kernel_rfl) (by kernel_rfl) (by kernel_rfl) (by exact fun _ _ _ h => h) (Or.inr ⟨by rfl, rfl⟩) hHeld ?_
                      simp only [Act.put, List.getElem_toArray, List.getElem_cons_succ, List.getElem_cons_zero, List.setIfInBounds_toArray, List.set_cons_zero, List.set_cons_succ]
                      refine wpAnyH_take (i := 17) (v := ?_) (by rfl) (by kernel_rfl) (by kernel_rfl) (by kernel_rfl) (by exact fun _ _ _ h => h) (Or.inl ⟨by rfl, ?_⟩) hHeld ?_
                      rotate_left
                      · (intro w hSw; (try dsimp only at hSw); go_simp; try with_reducible rfl)
                      simp only [Act.put, List.getElem_toArray, List.getElem_cons_succ, List.getElem_cons_zero, List.setIfInBounds_toArray, List.set_cons_zero, List.set_cons_succ]
                      try simp only [Act.put, List.getElem_toArray, List.getElem_cons_succ, List.getElem_cons_zero, List.setIfInBounds_toArray, List.set_cons_zero, List.set_cons_succ]
                      refine wpAnyH_done (by kernel_rfl) ?_ _
                      rw [← e11]
                      clear e11
                      replace hbi := hbi.trans (hb11.mono hbi.size)
                      clear hr
                      replace g0 := ((bcell hb11).1 bW (oW + H * 7) hbW).trans g0
                      replace g1 := ((bcell hb11).1 bW (oW + H * 7 + 1) hbW).trans g1
                      have hXs := hXr.on hb11
                      have hNr := hN10.below hbi
                      have hNl : evsN.length = dn + 1 := HLN.out
                      have hDl : D.length = dn := HDN.out.symm
                      have hKl : K < D.length := by omega
                      obtain ⟨hst, hE2⟩ := hE.step hHl hKl (by rw [← HEN.out]; exact HEC.out)
                      rw [← HEN.out] at hst
                      obtain ⟨p, ep⟩ : ∃ p, p = evsN[K]'(by omega) := ⟨_, rfl⟩
                      have hpx : p.x = n.x := by
                        rw [ep, hst, hNr.get K (by omega) (by rw [List.length_append]; omega)]
                        congr 1
                        exact List.getElem_append_left hKl
                      obtain ⟨bN2, oN2, hbo, hbN2, r0, r1, r2, r3, r4, r5, r6⟩ := ev_at_k (Rd.own hNr.row) K (by omega)
                      simp only [Option.some.injEq, Addr.mk.injEq, and_true] at hbo
                      obtain ⟨rfl, rfl⟩ := hbo
                      have hbNQ := hbN2
                      have hel := hNr.lists p (by rw [ep]; exact List.getElem_mem _)
                      rw [← ep] at r0 r1 r2 r3 r4 r5 r6
                      have hKd : K < dn + 1 := by omega
                      have hKd1 : K ≤ dn := by omega
                      have hKd2 : (K : Int) < (dn : Int) + 1 := by omega
                      clear ep hst hNl hDl hNr
                      obtain ⟨vpN, vfN, xN⟩ := p
                      simp only at hpx
                      subst hpx
                      replace r0 : w11.cell? ⟨bN, oN + K * 7, none⟩ = some (S n.x.key) := r0
                      replace r1 : w11.cell? ⟨bN, oN + K * 7 + 1, none⟩ = some (vpN) := r1
                      replace r2 : w11.cell? ⟨bN, oN + K * 7 + 2, none⟩ = some (.int .i64 n.x.st) := r2
                      replace r3 : w11.cell? ⟨bN, oN + K * 7 + 3, none⟩ = some (vfN) := r3
                      replace r4 : w11.cell? ⟨bN, oN + K * 7 + 4, none⟩ = some (S n.x.body) := r4
                      replace r5 : w11.cell? ⟨bN, oN + K * 7 + 5, none⟩ = some (.int .i64 n.x.asked) := r5
                      replace r6 : w11.cell? ⟨bN, oN + K * 7 + 6, none⟩ = some (.int .i64 n.x.came) := r6
                      have q0 := g0
                      have q1 := g1
                      have q2 := ((bcell hb11).1 bW (oW + H * 7 + 2) hbW).trans g2
                      have q3 := ((bcell hb11).1 bW (oW + H * 7 + 3) hbW).trans g3
                      have q4 := ((bcell hb11).1 bW (oW + H * 7 + 4) hbW).trans g4
                      have q5 := ((bcell hb11).1 bW (oW + H * 7 + 5) hbW).trans g5
                      have q6 := ((bcell hb11).1 bW (oW + H * 7 + 6) hbW).trans g6
                      have fp' := fp.below hb11
                      have ff' := ff.below hb11
                      have hSm := refSame_eq ⟨n.x.key, vpW, n.x.st, vfW, n.x.body, n.x.asked, n.x.came⟩ vpN vfN n.x.lp n.x.lf w11.drew (show Fs w11.drew.heap.size w11.drew vpW n.x.lp from (fp'.mono hb11.size).drew) (show Fs w11.drew.heap.size w11.drew vfW n.x.lf from (ff'.mono hb11.size).drew) (show Fs w11.drew.heap.size w11.drew vpN n.x.lp from Fs.own hel.1) (show Fs w11.drew.heap.size w11.drew vfN n.x.lf from Fs.own hel.2)
                      simp only [En.val] at hSm
                      clear hel fp ff fp' ff' g0 g1 g2 g3 g4 g5 g6 x0 x1 hXs hXe hXr hRr hRI
                      go_wp2_with fail
                      go_region_held3 (fun wx => wx.cell? ⟨bW, oW + H * 7, none⟩ = some (S n.x.key) ∧ wx.cell? ⟨bW, oW + H * 7 + 1, none⟩ = some (vpW) ∧ wx.cell? ⟨bW, oW + H * 7 + 2, none⟩ = some (.int .i64 n.x.st) ∧ wx.cell? ⟨bW, oW + H * 7 + 3, none⟩ = some (vfW) ∧ wx.cell? ⟨bW, oW + H * 7 + 4, none⟩ = some (S n.x.body) ∧ wx.cell? ⟨bW, oW + H * 7 + 5, none⟩ = some (.int .i64 n.x.asked) ∧ wx.cell? ⟨bW, oW + H * 7 + 6, none⟩ = some (.int .i64 n.x.came) ∧ wx.cell? ⟨bN, oN + K * 7, none⟩ = some (S n.x.key) ∧ wx.cell? ⟨bN, oN + K * 7 + 1, none⟩ = some (vpN) ∧ wx.cell? ⟨bN, oN + K * 7 + 2, none⟩ = some (.int .i64 n.x.st) ∧ wx.cell? ⟨bN, oN + K * 7 + 3, none⟩ = some (vfN) ∧ wx.cell? ⟨bN, oN + K * 7 + 4, none⟩ = some (S n.x.body) ∧ wx.cell? ⟨bN, oN + K * 7 + 5, none⟩ = some (.int .i64 n.x.asked) ∧ wx.cell? ⟨bN, oN + K * 7 + 6, none⟩ = some (.int .i64 n.x.came))
                        (first | go_keep)
                        ((go_at_call 15; (with_reducible refine hSm.mono ?_); rintro e w12 ⟨rfl, hb12⟩; replace hb12 := Bl.undrew hb12; replace q0 := ((bcell hb12).1 bW (oW + H * 7) (Nat.lt_of_lt_of_le hbW hb11.size)).trans q0; replace q1 := ((bcell hb12).1 bW (oW + H * 7 + 1) (Nat.lt_of_lt_of_le hbW hb11.size)).trans q1; replace q2 := ((bcell hb12).1 bW (oW + H * 7 + 2) (Nat.lt_of_lt_of_le hbW hb11.size)).trans q2; replace q3 := ((bcell hb12).1 bW (oW + H * 7 + 3) (Nat.lt_of_lt_of_le hbW hb11.size)).trans q3; replace q4 := ((bcell hb12).1 bW (oW + H * 7 + 4) (Nat.lt_of_lt_of_le hbW hb11.size)).trans q4; replace q5 := ((bcell hb12).1 bW (oW + H * 7 + 5) (Nat.lt_of_lt_of_le hbW hb11.size)).trans q5; replace q6 := ((bcell hb12).1 bW (oW + H * 7 + 6) (Nat.lt_of_lt_of_le hbW hb11.size)).trans q6; replace r0 := ((bcell hb12).1 bN (oN + K * 7) hbNQ).trans r0; replace r1 := ((bcell hb12).1 bN (oN + K * 7 + 1) hbNQ).trans r1; replace r2 := ((bcell hb12).1 bN (oN + K * 7 + 2) hbNQ).trans r2; replace r3 := ((bcell hb12).1 bN (oN + K * 7 + 3) hbNQ).trans r3; replace r4 := ((bcell hb12).1 bN (oN + K * 7 + 4) hbNQ).trans r4; replace r5 := ((bcell hb12).1 bN (oN + K * 7 + 5) hbNQ).trans r5; replace r6 := ((bcell hb12).1 bN (oN + K * 7 + 6) hbNQ).trans r6))
                      all_goals
                        go_wp2_with fail
                        go_roundw
                        case rel => exact ⟨H, K, by go_num, by go_num, by omega, by omega, hE2, hbi.trans (hb12.mono hbi.size)⟩
                        case measure => (first | (simp [intOf]; done) | (simp [intOf]; omega))
            · have hPut := Put_long R R (R + 2) R (R + 1) (M : Int) last l ⟨xkey, .slice axp xlp.length kxp, xst, .slice axf xlf.length kxf, xbody, xa, xc⟩ xlp xlf wy hsy (fun w' hb => (hxp.below (hpst w' hb)).mono (hpz w' hb)) (fun w' hb => (hxf.below (hpst w' hb)).mono (hpz w' hb)) (by show xkey.length ≤ _; omega) (by show xbody.length ≤ _; omega) (by omega) (by omega) (by omega) (by show (M : Int) < ((64 + xkey.length + xbody.length + fsum xlf + fsum xlp : Nat) : Int); omega)
              go_wp2_with fail
              refine hPut.mono ?_
              rintro e w7 ⟨rfl, hs7, hb7⟩
              obtain ⟨D, eD⟩ : ∃ D, D = l.filter (fun n => !alikeP xkey xlp n) := ⟨_, rfl⟩
              have hends : ∃ E, l.filter (fun n => !alikeP xkey xlp n) = E ++ D := ⟨[], by rw [eD]; rfl⟩
              rw [← eD] at hs7
              have hids7 : ∀ n ∈ D, n.x.id ≤ last := by
                rw [eD]
                exact fun n hn => hids n (List.mem_filter.1 hn).1
              clear eD
              have hX7 := hXy.but hb7 hXo
              have hW7 := hW.but hsy hb7
              have hRY7 : Below R wo w7 := hpst w7 hb7
              have hll : l.length ≤ 16384 := hsy.length_le
              have hR7 : R < w7.heap.size := hs7.rlt
              have hcost := Cost_any ⟨xkey, .slice axp xlp.length kxp, xst, .slice axf xlf.length kxf, xbody, xa, xc⟩ xlp xlf w7 ((hxp.below hRY7).mono (Nat.le_of_lt hR7)) ((hxf.below hRY7).mono (Nat.le_of_lt hR7)) (by show xkey.length ≤ _; omega) (by show xbody.length ≤ _; omega) (by omega) (by omega)
              have hcf : costF ⟨xkey, .slice axp xlp.length kxp, xst, .slice axf xlf.length kxf, xbody, xa, xc⟩ xlp xlf = 64 + xkey.length + xbody.length + fsum xlf + fsum xlp := rfl
              rw [hcf] at hcost
              clear hcf
              obtain ⟨cx, ecx⟩ : ∃ cx, cx = 64 + xkey.length + xbody.length + fsum xlf + fsum xlp := ⟨_, rfl⟩
              rw [← ecx] at hcost hc
              clear ecx x0 x1 x2 x3 x4 x5 x6 hPut hpst hpz hXy hsy hW hRY hRy hXo hb7
              (have x0 : w7.cell? ⟨X, 0, none⟩ = some (S xkey) := hX7.cell 0; have x1 : w7.cell? ⟨X, 1, none⟩ = some (.slice axp xlp.length kxp) := hX7.cell 1; have x2 : w7.cell? ⟨X, 2, none⟩ = some (.int .i64 xst) := hX7.cell 2; have x3 : w7.cell? ⟨X, 3, none⟩ = some (.slice axf xlf.length kxf) := hX7.cell 3; have x4 : w7.cell? ⟨X, 4, none⟩ = some (S xbody) := hX7.cell 4; have x5 : w7.cell? ⟨X, 5, none⟩ = some (.int .i64 xa) := hX7.cell 5; have x6 : w7.cell? ⟨X, 6, none⟩ = some (.int .i64 xc) := hX7.cell 6)
              go_wp2_with fail
              refine hcost.mono ?_
              rintro e w8 ⟨rfl, hb8⟩
              have hX8 := hX7.on hb8
              have hW8 := hW7.below hb8
              have hs8 := hs7.below hb8
              have hRY8 : Below R wo w8 := hRY7.trans (hb8.mono (Nat.le_of_lt hR7))
              have hR8 : R < w8.heap.size := hs8.rlt
              obtain ⟨cs, ecs⟩ : ∃ cs, cs = costs ((D).map Nd.x) := ⟨_, rfl⟩
              have hby8 : w8.cell? ⟨R + 2, 1, none⟩ = some (.int .i64 (cs : Nat)) := by rw [ecs]; exact hs8.blk.cell 1
              have hcs : (cs : Int) ≤ (M : Int) := by rw [ecs]; exact hs8.room
              have hBt := Bytes_any (R + 2) (cs : Nat) w8 hby8
              have u1 : decide ((M : Int) < (cx : Int)) = true := by simp; omega
              have u2 : decide (M < cx) = true := by simp; omega
              have u3 : decide ((M : Int) < (cs : Int)) = false := by simp; omega
              have u4 : decide (M < cs) = false := by simp; omega
              clear ecs x0 x1 x2 x3 x4 x5 x6 hX7 hW7 hs7 hRY7 hR7 hb8 hcost
              go_wp2_with fail
              refine hBt.mono ?_
              rintro e w8b ⟨rfl, e8⟩
              rw [e8]
              clear e8 w8b
              have hAll := ShAll_any R R (R + 2) R (R + 1) (M : Int) (last) (D) w8 hs8
              go_wp2_with fail
              refine hAll.mono ?_
              rintro e w9 ⟨vN, evsN, rfl, hN, hb9⟩
              obtain ⟨aN, cN, hvN⟩ := row_form hN.row
              subst hvN
              have hX9 := hX8.on hb9
              have hW9 := hW8.below hb9
              have hs9 := hs8.below hb9
              have hRY9 : Below R wo w9 := hRY8.trans (hb9.mono (Nat.le_of_lt hR8))
              have hR9 : R < w9.heap.size := hs9.rlt
              have hlN := hN.len
              have hlW := hW9.len
              have hlc := hs9.length_le
              clear u1 u2 u3 u4 hX8 hW8 hs8 hRY8 hR8 hb9 hAll hBt hby8 hcs
              rw [hlN]
              have HLN := Lib.hid hlN
              clear hlN
              obtain ⟨w10, e10⟩ : ∃ w10 : World, w10 = w9.drew := ⟨_, rfl⟩
              have hb10 : Below w9.heap.size w9 w10 := by rw [e10]; exact (Below.refl _ _).drew
              have hX10 := hX9.on hb10
              go_wp2_with fail
              refine wp_region_held_drew (S := (fun wx => wx.cell? ⟨X, 0, none⟩ = some (S xkey))) (by kernel_rfl) (hX9.cell 0) (fun hHeld => ?_)
              refine wpAnyH_take (i := 0) (v := ?_) (by rfl) (by kernel_rfl) (by kernel_rfl) (by kernel_rfl) (by exact fun _ _ _ h => h) (Or.inl ⟨by rfl, ?_⟩) hHeld ?_
              rotate_left
              · (intro w hSw; (try dsimp only at hSw); go_simp; try with_reducible rfl)
              simp only [Act.put, List.getElem_toArray, List.getElem_cons_succ, List.getElem_cons_zero, List.setIfInBounds_toArray, List.set_cons_zero, List.set_cons_succ]
              refine wpAnyH_take (i := 1) (v := ?_) (by rfl) (by kernel_rfl) (by kernel_rfl) (by kernel_rfl) (by exact fun _ _ _ h => h) (Or.inl ⟨by rfl, ?_⟩) hHeld ?_
              rotate_left
              · (intro w hSw; (try dsimp only at hSw); go_simp; try with_reducible rfl)
              simp only [Act.put, List.getElem_toArray, List.getElem_cons_succ, List.getElem_cons_zero, List.setIfInBounds_toArray, List.set_cons_zero, List.set_cons_succ]
              refine wpAnyH_take (i := 2) (v := ?_) (by rfl) (by kernel_rfl) (by kernel_rfl) (by kernel_rfl) (by exact fun _ _ _ h => h) (Or.inl ⟨by rfl, ?_⟩) hHeld ?_
              rotate_left
              · (intro w hSw; (try dsimp only at hSw); go_simp; try with_reducible rfl)
              simp only [Act.put, List.getElem_toArray, List.getElem_cons_succ, List.getElem_cons_zero, List.setIfInBounds_toArray, List.set_cons_zero, List.set_cons_succ]
              refine wpAnyH_take (i := 3) (v := undef) (by rfl) (by kernel_rfl) (by kernel_rfl) (by kernel_rfl) (by exact fun _ _ _ h => h) (Or.inr ⟨by rfl, rfl⟩) hHeld ?_
              simp only [Act.put, List.getElem_toArray, List.getElem_cons_succ, List.getElem_cons_zero, List.setIfInBounds_toArray, List.set_cons_zero, List.set_cons_succ]
              refine wpAnyH_take (i := 4) (v := undef) (by rfl) (by kernel_rfl) (by kernel_rfl) (by kernel_rfl) (by exact fun _ _ _ h => h) (Or.inr ⟨by rfl, rfl⟩) hHeld ?_
              simp only [Act.put, List.getElem_toArray, List.getElem_cons_succ, List.getElem_cons_zero, List.setIfInBounds_toArray, List.set_cons_zero, List.set_cons_succ]
              refine wpAnyH_take (i := 5) (v := undef) (by rfl) (by kernel_rfl) (by kernel_rfl) (by kernel_rfl) (by exact fun _ _ _ h => h) (Or.inr ⟨by rfl, rfl⟩) hHeld ?_
              simp only [Act.put, List.getElem_toArray, List.getElem_cons_succ, List.getElem_cons_zero, List.setIfInBounds_toArray, List.set_cons_zero, List.set_cons_succ]
              refine wpAnyH_take (i := 6) (v := undef) (by rfl) (by kernel_rfl) (by kernel_rfl) (by kernel_rfl) (by exact fun _ _ _ h => h) (Or.inr ⟨by rfl, rfl⟩) hHeld ?_
              simp only [Act.put, List.getElem_toArray, List.getElem_cons_succ, List.getElem_cons_zero, List.setIfInBounds_toArray, List.set_cons_zero, List.set_cons_succ]
              refine wpAnyH_take (i := 7) (v := undef) (by rfl) (by kernel_rfl) (by kernel_rfl) (by kernel_rfl) (by exact fun _ _ _ h => h) (Or.inr ⟨by rfl, rfl⟩) hHeld ?_
              simp only [Act.put, List.getElem_toArray, List.getElem_cons_succ, List.getElem_cons_zero, List.setIfInBounds_toArray, List.set_cons_zero, List.set_cons_succ]
              refine wpAnyH_take (i := 8) (v := undef) (by rfl) (by kernel_rfl) (by kernel_rfl) (by kernel_rfl) (by exact fun _ _ _ h => h) (Or.inr ⟨by rfl, rfl⟩) hHeld ?_
              simp only [Act.put, List.getElem_toArray, List.getElem_cons_succ, List.getElem_cons_zero, List.setIfInBounds_toArray, List.set_cons_zero, List.set_cons_succ]
              refine wpAnyH_take (i := 9) (v := undef) (by rfl) (by kernel_rfl) (by kernel_rfl) (by kernel_rfl) (by exact fun _ _ _ h => h) (Or.inr ⟨by rfl, rfl⟩) hHeld ?_
              simp only [Act.put, List.getElem_toArray, List.getElem_cons_succ, List.getElem_cons_zero, List.setIfInBounds_toArray, List.set_cons_zero, List.set_cons_succ]
              refine wpAnyH_take (i := 10) (v := undef) (by rfl) (by kernel_rfl) (by kernel_rfl) (by kernel_rfl) (by exact fun _ _ _ h => h) (Or.inr ⟨by rfl, rfl⟩) hHeld ?_
              simp only [Act.put, List.getElem_toArray, List.getElem_cons_succ, List.getElem_cons_zero, List.setIfInBounds_toArray, List.set_cons_zero, List.set_cons_succ]
              refine wpAnyH_take (i := 11) (v := undef) (by rfl) (by kernel_rfl) (by kernel_rfl) (by kernel_rfl) (by exact fun _ _ _ h => h) (Or.inr ⟨by rfl, rfl⟩) hHeld ?_
              simp only [Act.put, List.getElem_toArray, List.getElem_cons_succ, List.getElem_cons_zero, List.setIfInBounds_toArray, List.set_cons_zero, List.set_cons_succ]
              refine wpAnyH_take (i := 12) (v := undef) (by rfl) (by kernel_rfl) (by kernel_rfl) (by kernel_rfl) (by exact fun _ _ _ h => h) (Or.inr ⟨by rfl, rfl⟩) hHeld ?_
              simp only [Act.put, List.getElem_toArray, List.getElem_cons_succ, List.getElem_cons_zero, List.setIfInBounds_toArray, List.set_cons_zero, List.set_cons_succ]
              refine wpAnyH_take (i := 13) (v := undef) (by rfl) (by kernel_rfl) (by kernel_rfl) (by kernel_rfl) (by exact fun _ _ _ h => h) (Or.inr ⟨by rfl, rfl⟩) hHeld ?_
              simp only [Act.put, List.getElem_toArray, List.getElem_cons_succ, List.getElem_cons_zero, List.setIfInBounds_toArray, List.set_cons_zero, List.set_cons_succ]
              refine wpAnyH_take (i := 14) (v := undef) (by rfl) (by kernel_rfl) (by kernel_rfl) (by kernel_rfl) (by exact fun _ _ _ h => h) (Or.inr ⟨by rfl, rfl⟩) hHeld ?_
              simp only [Act.put, List.getElem_toArray, List.getElem_cons_succ, List.getElem_cons_zero, List.setIfInBounds_toArray, List.set_cons_zero, List.set_cons_succ]
              refine wpAnyH_take (i := 15) (v := undef) (by rfl) (by kernel_rfl) (by kernel_rfl) (by kernel_rfl) (by exact fun _ _ _ h => h) (Or.inr ⟨by rfl, rfl⟩) hHeld ?_
              simp only [Act.put, List.getElem_toArray, List.getElem_cons_succ, List.getElem_cons_zero, List.setIfInBounds_toArray, List.set_cons_zero, List.set_cons_succ]
              refine wpAnyH_take (i := 16) (v := undef) (by rfl) (by kernel_rfl) (by kernel_rfl) (by kernel_rfl) (by exact fun _ _ _ h => h) (Or.inr ⟨by rfl, rfl⟩) hHeld ?_
              simp only [Act.put, List.getElem_toArray, List.getElem_cons_succ, List.getElem_cons_zero, List.setIfInBounds_toArray, List.set_cons_zero, List.set_cons_succ]
              refine wpAnyH_take (i := 17) (v := ?_) (by rfl) (by kernel_rfl) (by kernel_rfl) (by kernel_rfl) (by exact fun _ _ _ h => h) (Or.inl ⟨by rfl, ?_⟩) hHeld ?_
              rotate_left
              · (intro w hSw; (try dsimp only at hSw); go_simp; try with_reducible rfl)
              simp only [Act.put, List.getElem_toArray, List.getElem_cons_succ, List.getElem_cons_zero, List.setIfInBounds_toArray, List.set_cons_zero, List.set_cons_succ]
              try simp only [Act.put, List.getElem_toArray, List.getElem_cons_succ, List.getElem_cons_zero, List.setIfInBounds_toArray, List.set_cons_zero, List.set_cons_succ]
              refine wpAnyH_done (by kernel_rfl) ?_ _
              rw [← e10]
              clear e10
              have hs10 := hs9.below hb10
              have hW10 := hW9.below hb10
              have hN10 := hN.below hb10
              have hbO : Below R w4 w10 := (hbr.trans hRY9).trans (hb10.mono (Nat.le_of_lt hR9))
              have hwO : Below B w w10 := hwr.trans ((hRY9.trans (hb10.mono (Nat.le_of_lt hR9))).mono hB3)
              have hRO : Below R wo w10 := hRY9.trans (hb10.mono (Nat.le_of_lt hR9))
              have hR10 : R < w10.heap.size := hs10.rlt
              have HLW := Lib.hid hlW
              have hE0 := Ends.start hends
              clear hlW hends hs9 hW9 hN hX9 hb10 hR9 hRY9
              go_wp2_with fail
              go_loopw [16, 17] (fun k h wr => ∃ H K : Nat, k = .int .i64 ((K : Int) - 1) ∧ h = .int .i64 ((H : Int) - 1) ∧ H ≤ l.length ∧ K ≤ D.length ∧ Ends (alikeP xkey xlp) l D H K ∧ Below w10.heap.size w10 wr) (fun _ h _ => (intOf h + 1).toNat)
              case atStart => exact ⟨l.length, D.length, by go_num, by go_num, Nat.le_refl _, Nat.le_refl _, hE0, Below.refl _ _⟩
              case round =>
                obtain ⟨H, K, rfl, rfl, hH, hK, hE, hbi⟩ := hrel
                clear hE0
                cases H with
                | zero =>
                  obtain rfl := hE.over hK
                  rw [show (((0 : Nat) : Int) - 1) = -1 from rfl]
                  go_wp2_with fail
                  go_roundw
                  case rel => exact ⟨j + 1, last, D, by go_num, by omega, hs10.below hbi, hids7, by omega, by omega, hbO.trans (hbi.mono (Nat.le_of_lt hR10))⟩
                  case measure => (first | (simp [intOf]; done) | (simp [intOf]; omega))
                | succ H =>
                  rw [show (((H + 1 : Nat) : Int) - 1) = (H : Int) from by omega]
                  cases K with
                  | zero =>
                    rw [show (((0 : Nat) : Int) - 1) = -1 from rfl]
                    go_wp2_with fail
                    go_roundw
                    case rel => exact ⟨j + 1, last, D, by go_num, by omega, hs10.below hbi, hids7, by omega, by omega, hbO.trans (hbi.mono (Nat.le_of_lt hR10))⟩
                    case measure => (first | (simp [intOf]; done) | (simp [intOf]; omega))
                  | succ K =>
                    rw [show (((K + 1 : Nat) : Int) - 1) = (K : Int) from by omega]
                    have hXr := hX10.on hbi
                    have hWr := hW10.below hbi
                    have hWl : evsW.length = l.length := HLW.out
                    have hHl : H < l.length := by omega
                    obtain ⟨n, en⟩ : ∃ n, n = l[H]'hHl := ⟨_, rfl⟩
                    obtain ⟨q, eq⟩ : ∃ q, q = evsW[H]'(by omega) := ⟨_, rfl⟩
                    have hqx : q.x = n.x := by rw [eq, en]; exact hWr.get H (by omega) (by omega)
                    obtain ⟨bW, oW, rfl, hbW, g0, g1, g2, g3, g4, g5, g6⟩ := ev_at_k (Rd.own hWr.row) H (by omega)
                    have hel := hWr.lists q (by rw [eq]; exact List.getElem_mem _)
                    rw [← eq] at g0 g1 g2 g3 g4 g5 g6
                    clear eq hWl
                    obtain ⟨vpW, vfW, xW⟩ := q
                    simp only at hqx
                    subst hqx
                    replace g0 : wr.cell? ⟨bW, oW + H * 7, none⟩ = some (S n.x.key) := g0
                    replace g1 : wr.cell? ⟨bW, oW + H * 7 + 1, none⟩ = some vpW := g1
                    replace g2 : wr.cell? ⟨bW, oW + H * 7 + 2, none⟩ = some (.int .i64 n.x.st) := g2
                    replace g3 : wr.cell? ⟨bW, oW + H * 7 + 3, none⟩ = some vfW := g3
                    replace g4 : wr.cell? ⟨bW, oW + H * 7 + 4, none⟩ = some (S n.x.body) := g4
                    replace g5 : wr.cell? ⟨bW, oW + H * 7 + 5, none⟩ = some (.int .i64 n.x.asked) := g5
                    replace g6 : wr.cell? ⟨bW, oW + H * 7 + 6, none⟩ = some (.int .i64 n.x.came) := g6
                    have fp : Fs wr.heap.size wr vpW n.x.lp := Fs.own hel.1
                    have ff : Fs wr.heap.size wr vfW n.x.lf := Fs.own hel.2
                    have hRr : R < wr.heap.size := Nat.lt_of_lt_of_le hR10 hbi.size
                    have hRI : Below R wo wr := hRO.trans (hbi.mono (Nat.le_of_lt hR10))
                    have x0 : wr.cell? ⟨X, 0, none⟩ = some (S xkey) := hXr.cell 0
                    have x1 : wr.cell? ⟨X, 1, none⟩ = some (.slice axp xlp.length kxp) := hXr.cell 1
                    have HEN := Lib.hid en
                    clear en hel hWr
                    by_cases hk : n.x.key = xkey
                    · have hr : (n.x.key == xkey) = true := by simp [hk]
                      have hPS := PSame_any n.x.lp xlp vpW (.slice axp xlp.length kxp) wr.drew fp.drew ((hxp.below hRI.drew).mono (Nat.le_of_lt hRr))
                      obtain ⟨c, ec⟩ : ∃ c, c = (n.x.lp == xlp) := ⟨_, rfl⟩
                      rw [← ec] at hPS
                      have hal : alikeP xkey xlp n = c := by
                        unfold alikeP
                        rw [hr, ec]
                        rfl
                      have HEC := Lib.hid hal
                      clear hk ec hal
                      cases c with
                      | true =>
                        go_wp2_with fail
                        refine wp_region_held_drew (S := (fun wx => wx.cell? ⟨bW, oW + H * 7, none⟩ = some (S n.x.key) ∧ wx.cell? ⟨bW, oW + H * 7 + 1, none⟩ = some vpW ∧ wx.cell? ⟨X, 0, none⟩ = some (S xkey) ∧ wx.cell? ⟨X, 1, none⟩ = some (.slice axp xlp.length kxp))) (by kernel_rfl) ⟨g0, g1, x0, x1⟩ (fun hHeld => ?_)
                        refine wpAnyH_take (i := 0) (v := ?_) (by rfl) (by kernel_rfl) (by kernel_rfl) (by kernel_rfl) (by exact fun _ _ _ h => h) (Or.inl ⟨by rfl, ?_⟩) hHeld ?_
                        rotate_left
                        · (intro w hSw; (try dsimp only at hSw); go_simp; try with_reducible rfl)
                        simp only [Act.put, List.getElem_toArray, List.getElem_cons_succ, List.getElem_cons_zero, List.setIfInBounds_toArray, List.set_cons_zero, List.set_cons_succ]
                        refine wpAnyH_take (i := 1) (v := ?_) (by rfl) (by kernel_rfl) (by kernel_rfl) (by kernel_rfl) (by exact fun _ _ _ h => h) (Or.inl ⟨by rfl, ?_⟩) hHeld ?_
                        rotate_left
                        · (intro w hSw; (try dsimp only at hSw); go_simp; try with_reducible rfl)
                        simp only [Act.put, List.getElem_toArray, List.getElem_cons_succ, List.getElem_cons_zero, List.setIfInBounds_toArray, List.set_cons_zero, List.set_cons_succ]
                        refine wpAnyH_take (i := 2) (v := ?_) (by rfl) (by kernel_rfl) (by kernel_rfl) (by kernel_rfl) (by exact fun _ _ _ h => h) (Or.inl ⟨by rfl, ?_⟩) hHeld ?_
                        rotate_left
                        · (intro w hSw; (try dsimp only at hSw); go_simp; try with_reducible rfl)
                        simp only [Act.put, List.getElem_toArray, List.getElem_cons_succ, List.getElem_cons_zero, List.setIfInBounds_toArray, List.set_cons_zero, List.set_cons_succ]
                        refine wpAnyH_take (i := 3) (v := ?_) (by rfl) (by kernel_rfl) (by kernel_rfl) (by kernel_rfl) (by exact fun _ _ _ h => h) (Or.inl ⟨by rfl, ?_⟩) hHeld ?_
                        rotate_left
                        · (intro w hSw; (try dsimp only at hSw); go_simp; try with_reducible rfl)
                        simp only [Act.put, List.getElem_toArray, List.getElem_cons_succ, List.getElem_cons_zero, List.setIfInBounds_toArray, List.set_cons_zero, List.set_cons_succ]
                        refine wpAnyH_take (i := 4) (v := ?_) (by rfl) (by kernel_rfl) (by kernel_rfl) (by kernel_rfl) (by exact fun _ _ _ h => h) (Or.inl ⟨by rfl, ?_⟩) hHeld ?_
                        rotate_left
                        · (intro w hSw; (try dsimp only at hSw); go_simp; try with_reducible rfl)
                        simp only [Act.put, List.getElem_toArray, List.getElem_cons_succ, List.getElem_cons_zero, List.setIfInBounds_toArray, List.set_cons_zero, List.set_cons_succ]
                        refine wpAnyH_take (i := 5) (v := ?_) (by rfl) (by kernel_rfl) (by kernel_rfl) (by kernel_rfl) (by exact fun _ _ _ h => h) (Or.inl ⟨by rfl, ?_⟩) hHeld ?_
                        rotate_left
                        · (intro w hSw; (try dsimp only at hSw); go_simp; try with_reducible rfl)
                        simp only [Act.put, List.getElem_toArray, List.getElem_cons_succ, List.getElem_cons_zero, List.setIfInBounds_toArray, List.set_cons_zero, List.set_cons_succ]
                        refine wpAnyH_take (i := 6) (v := ?_) (by rfl) (by kernel_rfl) (by kernel_rfl) (by kernel_rfl) (by exact fun _ _ _ h => h) (Or.inl ⟨by rfl, ?_⟩) hHeld ?_
                        rotate_left
                        · (intro w hSw; (try dsimp only at hSw); go_simp; try with_reducible rfl)
                        simp only [Act.put, List.getElem_toArray, List.getElem_cons_succ, List.getElem_cons_zero, List.setIfInBounds_toArray, List.set_cons_zero, List.set_cons_succ]
                        refine wpAnyH_take (i := 7) (v := ?_) (by rfl) (by kernel_rfl) (by kernel_rfl) (by kernel_rfl) (by exact fun _ _ _ h => h) (Or.inl ⟨by rfl, ?_⟩) hHeld ?_
                        rotate_left
                        · (intro w hSw; (try dsimp only at hSw); go_simp; try with_reducible rfl)
                        simp only [Act.put, List.getElem_toArray, List.getElem_cons_succ, List.getElem_cons_zero, List.setIfInBounds_toArray, List.set_cons_zero, List.set_cons_succ]
                        refine wpAnyH_take (i := 8) (v := ?_) (by rfl) (by kernel_rfl) (by kernel_rfl) (by kernel_rfl) (by exact fun _ _ _ h => h) (Or.inl ⟨by rfl, ?_⟩) hHeld ?_
                        rotate_left
                        · (intro w hSw; (try dsimp only at hSw); go_simp; try with_reducible rfl)
                        simp only [Act.put, List.getElem_toArray, List.getElem_cons_succ, List.getElem_cons_zero, List.setIfInBounds_toArray, List.set_cons_zero, List.set_cons_succ]
                        refine wpAnyH_take (i := 9) (v := ?_) (by rfl) (by kernel_rfl) (by kernel_rfl) (by kernel_rfl) (by exact fun _ _ _ h => h) (Or.inl ⟨by rfl, ?_⟩) hHeld ?_
                        rotate_left
                        · (intro w hSw; (try dsimp only at hSw); go_simp; try with_reducible rfl)
                        simp only [Act.put, List.getElem_toArray, List.getElem_cons_succ, List.getElem_cons_zero, List.setIfInBounds_toArray, List.set_cons_zero, List.set_cons_succ]
                        refine wpAnyH_take (i := 10) (v := ?_) (by rfl) (by kernel_rfl) (by kernel_rfl) (by kernel_rfl) (by exact fun _ _ _ h => h) (Or.inl ⟨by rfl, ?_⟩) hHeld ?_
                        rotate_left
                        · (intro w hSw; (try dsimp only at hSw); go_simp; try with_reducible rfl)
                        simp only [Act.put, List.getElem_toArray, List.getElem_cons_succ, List.getElem_cons_zero, List.setIfInBounds_toArray, List.set_cons_zero, List.set_cons_succ]
                        refine wpAnyH_take (i := 11) (v := ?_) (by rfl) (by kernel_rfl) (by kernel_rfl) (by kernel_rfl) (by exact fun _ _ _ h => h) (Or.inl ⟨by rfl, ?_⟩) hHeld ?_
                        rotate_left
                        · (intro w hSw; (try dsimp only at hSw); go_simp; try with_reducible rfl)
                        simp only [Act.put, List.getElem_toArray, List.getElem_cons_succ, List.getElem_cons_zero, List.setIfInBounds_toArray, List.set_cons_zero, List.set_cons_succ]
                        refine wpAnyH_take (i := 12) (v := ?_) (by rfl) (by kernel_rfl) (by kernel_rfl) (by kernel_rfl) (by exact fun _ _ _ h => h) (Or.inl ⟨by rfl, ?_⟩) hHeld ?_
                        rotate_left
                        · (intro w hSw; (try dsimp only at hSw); go_simp; try with_reducible rfl)
                        simp only [Act.put, List.getElem_toArray, List.getElem_cons_succ, List.getElem_cons_zero, List.setIfInBounds_toArray, List.set_cons_zero, List.set_cons_succ]
                        refine wpAnyH_take (i := 13) (v := ?_) (by rfl) (by kernel_rfl) (by kernel_rfl) (by kernel_rfl) (by exact fun _ _ _ h => h) (Or.inl ⟨by rfl, ?_⟩) hHeld ?_
                        rotate_left
                        · (intro w hSw; (try dsimp only at hSw); go_simp; try with_reducible rfl)
                        simp only [Act.put, List.getElem_toArray, List.getElem_cons_succ, List.getElem_cons_zero, List.setIfInBounds_toArray, List.set_cons_zero, List.set_cons_succ]
                        refine wpAnyH_take (i := 14) (v := ?_) (by rfl) (by kernel_rfl) (by kernel_rfl) (by kernel_rfl) (by exact fun _ _ _ h => h) (Or.inl ⟨by rfl, ?_⟩) hHeld ?_
                        rotate_left
                        · (intro w hSw; (try dsimp only at hSw); go_simp; try with_reducible rfl)
                        simp only [Act.put, List.getElem_toArray, List.getElem_cons_succ, List.getElem_cons_zero, List.setIfInBounds_toArray, List.set_cons_zero, List.set_cons_succ]
                        refine wpAnyH_take (i := 15) (v := ?_) (by rfl) (by kernel_rfl) (by kernel_rfl) (by kernel_rfl) (by exact fun _ _ _ h => h) (Or.inl ⟨by rfl, ?_⟩) hHeld ?_
                        rotate_left
                        · (intro w hSw; (try dsimp only at hSw); go_simp; try with_reducible rfl)
                        simp only [Act.put, List.getElem_toArray, List.getElem_cons_succ, List.getElem_cons_zero, List.setIfInBounds_toArray, List.set_cons_zero, List.set_cons_succ]
                        refine wpAnyH_ready (rs := [16]) (by kernel_rfl) (by simp) ?_
                        refine AllReadyH.cons (by rfl) (fun K hK => ?_) AllReadyH.nil
                        go_simp
                        (with_reducible refine hPS.mono ?_); rintro e w11 ⟨rfl, hb11⟩; replace hb11 := Bl.undrew hb11; have hXe := hXr.on hb11; replace x0 : w11.cell? ⟨X, 0, none⟩ = some (S xkey) := hXe.cell 0; replace x1 : w11.cell? ⟨X, 1, none⟩ = some (.slice axp xlp.length kxp) := hXe.cell 1; replace g0 := ((bcell hb11).1 bW (oW + H * 7) hbW).trans g0; replace g1 := ((bcell hb11).1 bW (oW + H * 7 + 1) hbW).trans g1
                        refine hK.out _ _ ⟨g0, g1, x0, x1⟩ (fun hHeld => ?_)
                        clear hK K
                        try simp only [Act.put, List.getElem_toArray, List.getElem_cons_succ, List.getElem_cons_zero, List.setIfInBounds_toArray, List.set_cons_zero, List.set_cons_succ]
                        refine wpAnyH_take (i := 17) (v := ?_) (by rfl) (by kernel_rfl) (by kernel_rfl) (by kernel_rfl) (by exact fun _ _ _ h => h) (Or.inl ⟨by rfl, ?_⟩) hHeld ?_
                        rotate_left
                        · (intro w hSw; (try dsimp only at hSw); go_simp; try with_reducible rfl)
                        simp only [Act.put, List.getElem_toArray, List.getElem_cons_succ, List.getElem_cons_zero, List.setIfInBounds_toArray, List.set_cons_zero, List.set_cons_succ]
                        try simp only [Act.put, List.getElem_toArray, List.getElem_cons_succ, List.getElem_cons_zero, List.setIfInBounds_toArray, List.set_cons_zero, List.set_cons_succ]
                        refine wpAnyH_done (by kernel_rfl) ?_ _
                        go_wp2_with fail
                        go_roundw
                        case rel => exact ⟨H, K + 1, by go_num, by go_num, by omega, hK, hE.skip (by omega) (by rw [← HEN.out]; exact HEC.out), hbi.trans (hb11.mono hbi.size)⟩
                        case measure => (first | (simp [intOf]; done) | (simp [intOf]; omega))
                      | false =>
                        go_wp2_with fail
                        refine wp_region_held_drew (S := (fun wx => wx.cell? ⟨bW, oW + H * 7, none⟩ = some (S n.x.key) ∧ wx.cell? ⟨bW, oW + H * 7 + 1, none⟩ = some vpW ∧ wx.cell? ⟨X, 0, none⟩ = some (S xkey) ∧ wx.cell? ⟨X, 1, none⟩ = some (.slice axp xlp.length kxp))) (by kernel_rfl) ⟨g0, g1, x0, x1⟩ (fun hHeld => ?_)
                        refine wpAnyH_take (i := 0) (v := ?_) (by rfl) (by kernel_rfl) (by kernel_rfl) (by kernel_rfl) (by exact fun _ _ _ h => h) (Or.inl ⟨by rfl, ?_⟩) hHeld ?_
                        rotate_left
                        · (intro w hSw; (try dsimp only at hSw); go_simp; try with_reducible rfl)
                        simp only [Act.put, List.getElem_toArray, List.getElem_cons_succ, List.getElem_cons_zero, List.setIfInBounds_toArray, List.set_cons_zero, List.set_cons_succ]
                        refine wpAnyH_take (i := 1) (v := ?_) (by rfl) (by kernel_rfl) (by kernel_rfl) (by kernel_rfl) (by exact fun _ _ _ h => h) (Or.inl ⟨by rfl, ?_⟩) hHeld ?_
                        rotate_left
                        · (intro w hSw; (try dsimp only at hSw); go_simp; try with_reducible rfl)
                        simp only [Act.put, List.getElem_toArray, List.getElem_cons_succ, List.getElem_cons_zero, List.setIfInBounds_toArray, List.set_cons_zero, List.set_cons_succ]
                        refine wpAnyH_take (i := 2) (v := ?_) (by rfl) (by kernel_rfl) (by kernel_rfl) (by kernel_rfl) (by exact fun _ _ _ h => h) (Or.inl ⟨by rfl, ?_⟩) hHeld ?_
                        rotate_left
                        · (intro w hSw; (try dsimp only at hSw); go_simp; try with_reducible rfl)
                        simp only [Act.put, List.getElem_toArray, List.getElem_cons_succ, List.getElem_cons_zero, List.setIfInBounds_toArray, List.set_cons_zero, List.set_cons_succ]
                        refine wpAnyH_take (i := 3) (v := ?_) (by rfl) (by kernel_rfl) (by kernel_rfl) (by kernel_rfl) (by exact fun _ _ _ h => h) (Or.inl ⟨by rfl, ?_⟩) hHeld ?_
                        rotate_left
                        · (intro w hSw; (try dsimp only at hSw); go_simp; try with_reducible rfl)
                        simp only [Act.put, List.getElem_toArray, List.getElem_cons_succ, List.getElem_cons_zero, List.setIfInBounds_toArray, List.set_cons_zero, List.set_cons_succ]
                        refine wpAnyH_take (i := 4) (v := ?_) (by rfl) (by kernel_rfl) (by kernel_rfl) (by kernel_rfl) (by exact fun _ _ _ h => h) (Or.inl ⟨by rfl, ?_⟩) hHeld ?_
                        rotate_left
                        · (intro w hSw; (try dsimp only at hSw); go_simp; try with_reducible rfl)
                        simp only [Act.put, List.getElem_toArray, List.getElem_cons_succ, List.getElem_cons_zero, List.setIfInBounds_toArray, List.set_cons_zero, List.set_cons_succ]
                        refine wpAnyH_take (i := 5) (v := ?_) (by rfl) (by kernel_rfl) (by kernel_rfl) (by kernel_rfl) (by exact fun _ _ _ h => h) (Or.inl ⟨by rfl, ?_⟩) hHeld ?_
                        rotate_left
                        · (intro w hSw; (try dsimp only at hSw); go_simp; try with_reducible rfl)
                        simp only [Act.put, List.getElem_toArray, List.getElem_cons_succ, List.getElem_cons_zero, List.setIfInBounds_toArray, List.set_cons_zero, List.set_cons_succ]
                        refine wpAnyH_take (i := 6) (v := ?_) (by rfl) (by kernel_rfl) (by kernel_rfl) (by kernel_rfl) (by exact fun _ _ _ h => h) (Or.inl ⟨by rfl, ?_⟩) hHeld ?_
                        rotate_left
                        · (intro w hSw; (try dsimp only at hSw); go_simp; try with_reducible rfl)
                        simp only [Act.put, List.getElem_toArray, List.getElem_cons_succ, List.getElem_cons_zero, List.setIfInBounds_toArray, List.set_cons_zero, List.set_cons_succ]
                        refine wpAnyH_take (i := 7) (v := ?_) (by rfl) (by kernel_rfl) (by kernel_rfl) (by kernel_rfl) (by exact fun _ _ _ h => h) (Or.inl ⟨by rfl, ?_⟩) hHeld ?_
                        rotate_left
                        · (intro w hSw; (try dsimp only at hSw); go_simp; try with_reducible rfl)
                        simp only [Act.put, List.getElem_toArray, List.getElem_cons_succ, List.getElem_cons_zero, List.setIfInBounds_toArray, List.set_cons_zero, List.set_cons_succ]
                        refine wpAnyH_take (i := 8) (v := ?_) (by rfl) (by kernel_rfl) (by kernel_rfl) (by kernel_rfl) (by exact fun _ _ _ h => h) (Or.inl ⟨by rfl, ?_⟩) hHeld ?_
                        rotate_left
                        · (intro w hSw; (try dsimp only at hSw); go_simp; try with_reducible rfl)
                        simp only [Act.put, List.getElem_toArray, List.getElem_cons_succ, List.getElem_cons_zero, List.setIfInBounds_toArray, List.set_cons_zero, List.set_cons_succ]
                        refine wpAnyH_take (i := 9) (v := ?_) (by rfl) (by kernel_rfl) (by kernel_rfl) (by kernel_rfl) (by exact fun _ _ _ h => h) (Or.inl ⟨by rfl, ?_⟩) hHeld ?_
                        rotate_left
                        · (intro w hSw; (try dsimp only at hSw); go_simp; try with_reducible rfl)
                        simp only [Act.put, List.getElem_toArray, List.getElem_cons_succ, List.getElem_cons_zero, List.setIfInBounds_toArray, List.set_cons_zero, List.set_cons_succ]
                        refine wpAnyH_take (i := 10) (v := ?_) (by rfl) (by kernel_rfl) (by kernel_rfl) (by kernel_rfl) (by exact fun _ _ _ h => h) (Or.inl ⟨by rfl, ?_⟩) hHeld ?_
                        rotate_left
                        · (intro w hSw; (try dsimp only at hSw); go_simp; try with_reducible rfl)
                        simp only [Act.put, List.getElem_toArray, List.getElem_cons_succ, List.getElem_cons_zero, List.setIfInBounds_toArray, List.set_cons_zero, List.set_cons_succ]
                        refine wpAnyH_take (i := 11) (v := ?_) (by rfl) (by kernel_rfl) (by kernel_rfl) (by kernel_rfl) (by exact fun _ _ _ h => h) (Or.inl ⟨by rfl, ?_⟩) hHeld ?_
                        rotate_left
                        · (intro w hSw; (try dsimp only at hSw); go_simp; try with_reducible rfl)
                        simp only [Act.put, List.getElem_toArray, List.getElem_cons_succ, List.getElem_cons_zero, List.setIfInBounds_toArray, List.set_cons_zero, List.set_cons_succ]
                        refine wpAnyH_take (i := 12) (v := ?_) (by rfl) (by kernel_rfl) (by kernel_rfl) (by kernel_rfl) (by exact fun _ _ _ h => h) (Or.inl ⟨by rfl, ?_⟩) hHeld ?_
                        rotate_left
                        · (intro w hSw; (try dsimp only at hSw); go_simp; try with_reducible rfl)
                        simp only [Act.put, List.getElem_toArray, List.getElem_cons_succ, List.getElem_cons_zero, List.setIfInBounds_toArray, List.set_cons_zero, List.set_cons_succ]
                        refine wpAnyH_take (i := 13) (v := ?_) (by rfl) (by kernel_rfl) (by kernel_rfl) (by kernel_rfl) (by exact fun _ _ _ h => h) (Or.inl ⟨by rfl, ?_⟩) hHeld ?_
                        rotate_left
                        · (intro w hSw; (try dsimp only at hSw); go_simp; try with_reducible rfl)
                        simp only [Act.put, List.getElem_toArray, List.getElem_cons_succ, List.getElem_cons_zero, List.setIfInBounds_toArray, List.set_cons_zero, List.set_cons_succ]
                        refine wpAnyH_take (i := 14) (v := ?_) (by rfl) (by kernel_rfl) (by kernel_rfl) (by kernel_rfl) (by exact fun _ _ _ h => h) (Or.inl ⟨by rfl, ?_⟩) hHeld ?_
                        rotate_left
                        · (intro w hSw; (try dsimp only at hSw); go_simp; try with_reducible rfl)
                        simp only [Act.put, List.getElem_toArray, List.getElem_cons_succ, List.getElem_cons_zero, List.setIfInBounds_toArray, List.set_cons_zero, List.set_cons_succ]
                        refine wpAnyH_take (i := 15) (v := ?_) (by rfl) (by kernel_rfl) (by kernel_rfl) (by kernel_rfl) (by exact fun _ _ _ h => h) (Or.inl ⟨by rfl, ?_⟩) hHeld ?_
                        rotate_left
                        · (intro w hSw; (try dsimp only at hSw); go_simp; try with_reducible rfl)
                        simp only [Act.put, List.getElem_toArray, List.getElem_cons_succ, List.getElem_cons_zero, List.setIfInBounds_toArray, List.set_cons_zero, List.set_cons_succ]
                        refine wpAnyH_ready (rs := [16]) (by kernel_rfl) (by simp) ?_
                        refine AllReadyH.cons (by rfl) (fun K hK => ?_) AllReadyH.nil
                        go_simp
                        (with_reducible refine hPS.mono ?_); rintro e w11 ⟨rfl, hb11⟩; replace hb11 := Bl.undrew hb11; have hXe := hXr.on hb11; replace x0 : w11.cell? ⟨X, 0, none⟩ = some (S xkey) := hXe.cell 0; replace x1 : w11.cell? ⟨X, 1, none⟩ = some (.slice axp xlp.length kxp) := hXe.cell 1; replace g0 := ((bcell hb11).1 bW (oW + H * 7) hbW).trans g0; replace g1 := ((bcell hb11).1 bW (oW + H * 7 + 1) hbW).trans g1
                        refine hK.out _ _ ⟨g0, g1, x0, x1⟩ (fun hHeld => ?_)
                        clear hK K
                        try simp only [Act.put, List.getElem_toArray, List.getElem_cons_succ, List.getElem_cons_zero, List.setIfInBounds_toArray, List.set_cons_zero, List.set_cons_succ]
                        refine wpAnyH_take (i := 17) (v := ?_) (by rfl) (by kernel_rfl) (by kernel_rfl) (by kernel_rfl) (by exact fun _ _ _ h => h) (Or.inl ⟨by rfl, ?_⟩) hHeld ?_
                        rotate_left
                        · (intro w hSw; (try dsimp only at hSw); go_simp; try with_reducible rfl)
                        simp only [Act.put, List.getElem_toArray, List.getElem_cons_succ, List.getElem_cons_zero, List.setIfInBounds_toArray, List.set_cons_zero, List.set_cons_succ]
                        try simp only [Act.put, List.getElem_toArray, List.getElem_cons_succ, List.getElem_cons_zero, List.setIfInBounds_toArray, List.set_cons_zero, List.set_cons_succ]
                        refine wpAnyH_done (by kernel_rfl) ?_ _
                        replace hbi := hbi.trans (hb11.mono hbi.size)
                        clear hPS hr
                        have hXs := hXr.on hb11
                        have hNr := hN10.below hbi
                        have hNl : evsN.length = D.length := HLN.out
                        have hDl : D.length = D.length := rfl
                        have hKl : K < D.length := by omega
                        obtain ⟨hst, hE2⟩ := hE.step hHl hKl (by rw [← HEN.out]; exact HEC.out)
                        rw [← HEN.out] at hst
                        obtain ⟨p, ep⟩ : ∃ p, p = evsN[K]'(by omega) := ⟨_, rfl⟩
                        have hpx : p.x = n.x := by
                          rw [ep, hst, hNr.get K (by omega) (by omega)]
                        obtain ⟨bN, oN, rfl, hbN, r0, r1, r2, r3, r4, r5, r6⟩ := ev_at_k (Rd.own hNr.row) K (by omega)
                        have hel := hNr.lists p (by rw [ep]; exact List.getElem_mem _)
                        rw [← ep] at r0 r1 r2 r3 r4 r5 r6
                        clear ep hst hNl hDl hNr
                        obtain ⟨vpN, vfN, xN⟩ := p
                        simp only at hpx
                        subst hpx
                        replace r0 : w11.cell? ⟨bN, oN + K * 7, none⟩ = some (S n.x.key) := r0
                        replace r1 : w11.cell? ⟨bN, oN + K * 7 + 1, none⟩ = some (vpN) := r1
                        replace r2 : w11.cell? ⟨bN, oN + K * 7 + 2, none⟩ = some (.int .i64 n.x.st) := r2
                        replace r3 : w11.cell? ⟨bN, oN + K * 7 + 3, none⟩ = some (vfN) := r3
                        replace r4 : w11.cell? ⟨bN, oN + K * 7 + 4, none⟩ = some (S n.x.body) := r4
                        replace r5 : w11.cell? ⟨bN, oN + K * 7 + 5, none⟩ = some (.int .i64 n.x.asked) := r5
                        replace r6 : w11.cell? ⟨bN, oN + K * 7 + 6, none⟩ = some (.int .i64 n.x.came) := r6
                        have q0 := g0
                        have q1 := g1
                        have q2 := ((bcell hb11).1 bW (oW + H * 7 + 2) hbW).trans g2
                        have q3 := ((bcell hb11).1 bW (oW + H * 7 + 3) hbW).trans g3
                        have q4 := ((bcell hb11).1 bW (oW + H * 7 + 4) hbW).trans g4
                        have q5 := ((bcell hb11).1 bW (oW + H * 7 + 5) hbW).trans g5
                        have q6 := ((bcell hb11).1 bW (oW + H * 7 + 6) hbW).trans g6
                        have fp' := fp.below hb11
                        have ff' := ff.below hb11
                        have hSm := refSame_eq ⟨n.x.key, vpW, n.x.st, vfW, n.x.body, n.x.asked, n.x.came⟩ vpN vfN n.x.lp n.x.lf w11.drew (show Fs w11.drew.heap.size w11.drew vpW n.x.lp from (fp'.mono hb11.size).drew) (show Fs w11.drew.heap.size w11.drew vfW n.x.lf from (ff'.mono hb11.size).drew) (show Fs w11.drew.heap.size w11.drew vpN n.x.lp from Fs.own hel.1) (show Fs w11.drew.heap.size w11.drew vfN n.x.lf from Fs.own hel.2)
                        simp only [En.val] at hSm
                        clear hel fp ff fp' ff' g0 g1 g2 g3 g4 g5 g6 x0 x1 hXs hXe hXr hRr hRI
                        go_wp2_with fail
                        go_region_held3 (fun wx => wx.cell? ⟨bW, oW + H * 7, none⟩ = some (S n.x.key) ∧ wx.cell? ⟨bW, oW + H * 7 + 1, none⟩ = some (vpW) ∧ wx.cell? ⟨bW, oW + H * 7 + 2, none⟩ = some (.int .i64 n.x.st) ∧ wx.cell? ⟨bW, oW + H * 7 + 3, none⟩ = some (vfW) ∧ wx.cell? ⟨bW, oW + H * 7 + 4, none⟩ = some (S n.x.body) ∧ wx.cell? ⟨bW, oW + H * 7 + 5, none⟩ = some (.int .i64 n.x.asked) ∧ wx.cell? ⟨bW, oW + H * 7 + 6, none⟩ = some (.int .i64 n.x.came) ∧ wx.cell? ⟨bN, oN + K * 7, none⟩ = some (S n.x.key) ∧ wx.cell? ⟨bN, oN + K * 7 + 1, none⟩ = some (vpN) ∧ wx.cell? ⟨bN, oN + K * 7 + 2, none⟩ = some (.int .i64 n.x.st) ∧ wx.cell? ⟨bN, oN + K * 7 + 3, none⟩ = some (vfN) ∧ wx.cell? ⟨bN, oN + K * 7 + 4, none⟩ = some (S n.x.body) ∧ wx.cell? ⟨bN, oN + K * 7 + 5, none⟩ = some (.int .i64 n.x.asked) ∧ wx.cell? ⟨bN, oN + K * 7 + 6, none⟩ = some (.int .i64 n.x.came))
                          (first | go_keep)
                          ((go_at_call 15; (with_reducible refine hSm.mono ?_); rintro e w12 ⟨rfl, hb12⟩; replace hb12 := Bl.undrew hb12; replace q0 := ((bcell hb12).1 bW (oW + H * 7) (Nat.lt_of_lt_of_le hbW hb11.size)).trans q0; replace q1 := ((bcell hb12).1 bW (oW + H * 7 + 1) (Nat.lt_of_lt_of_le hbW hb11.size)).trans q1; replace q2 := ((bcell hb12).1 bW (oW + H * 7 + 2) (Nat.lt_of_lt_of_le hbW hb11.size)).trans q2; replace q3 := ((bcell hb12).1 bW (oW + H * 7 + 3) (Nat.lt_of_lt_of_le hbW hb11.size)).trans q3; replace q4 := ((bcell hb12).1 bW (oW + H * 7 + 4) (Nat.lt_of_lt_of_le hbW hb11.size)).trans q4; replace q5 := ((bcell hb12).1 bW (oW + H * 7 + 5) (Nat.lt_of_lt_of_le hbW hb11.size)).trans q5; replace q6 := ((bcell hb12).1 bW (oW + H * 7 + 6) (Nat.lt_of_lt_of_le hbW hb11.size)).trans q6; replace r0 := ((bcell hb12).1 bN (oN + K * 7) hbN).trans r0; replace r1 := ((bcell hb12).1 bN (oN + K * 7 + 1) hbN).trans r1; replace r2 := ((bcell hb12).1 bN (oN + K * 7 + 2) hbN).trans r2; replace r3 := ((bcell hb12).1 bN (oN + K * 7 + 3) hbN).trans r3; replace r4 := ((bcell hb12).1 bN (oN + K * 7 + 4) hbN).trans r4; replace r5 := ((bcell hb12).1 bN (oN + K * 7 + 5) hbN).trans r5; replace r6 := ((bcell hb12).1 bN (oN + K * 7 + 6) hbN).trans r6))
                        all_goals
                          go_wp2_with fail
                          go_roundw
                          case rel => exact ⟨H, K, by go_num, by go_num, by omega, by omega, hE2, hbi.trans (hb12.mono hbi.size)⟩
                          case measure => (first | (simp [intOf]; done) | (simp [intOf]; omega))
                    · have hr : (n.x.key == xkey) = false := by simp [hk]
                      have HEC := Lib.hid (show alikeP xkey xlp n = false by unfold alikeP; rw [hr]; rfl)
                      clear hk
                      obtain ⟨w11, e11⟩ : ∃ w11 : World, w11 = wr.drew := ⟨_, rfl⟩
                      have hb11 : Below wr.heap.size wr w11 := by rw [e11]; exact (Below.refl _ _).drew
                      have hXe := hXr.on hb11
                      go_wp2_with fail
                      refine wp_region_held_drew (S := (fun wx => wx.cell? ⟨bW, oW + H * 7, none⟩ = some (S n.x.key) ∧ wx.cell? ⟨bW, oW + H * 7 + 1, none⟩ = some vpW ∧ wx.cell? ⟨X, 0, none⟩ = some (S xkey) ∧ wx.cell? ⟨X, 1, none⟩ = some (.slice axp xlp.length kxp))) (by kernel_rfl) ⟨g0, g1, x0, x1⟩ (fun hHeld => ?_)
                      refine wpAnyH_take (i := 0) (v := ?_) (by rfl) (by kernel_rfl) (by kernel_rfl) (by kernel_rfl) (by exact fun _ _ _ h => h) (Or.inl ⟨by rfl, ?_⟩) hHeld ?_
                      rotate_left
                      · (intro w hSw; (try dsimp only at hSw); go_simp; try with_reducible rfl)
                      simp only [Act.put, List.getElem_toArray, List.getElem_cons_succ, List.getElem_cons_zero, List.setIfInBounds_toArray, List.set_cons_zero, List.set_cons_succ]
                      refine wpAnyH_take (i := 1) (v := ?_) (by rfl) (by kernel_rfl) (by kernel_rfl) (by kernel_rfl) (by exact fun _ _ _ h => h) (Or.inl ⟨by rfl, ?_⟩) hHeld ?_
                      rotate_left
                      · (intro w hSw; (try dsimp only at hSw); go_simp; try with_reducible rfl)
                      simp only [Act.put, List.getElem_toArray, List.getElem_cons_succ, List.getElem_cons_zero, List.setIfInBounds_toArray, List.set_cons_zero, List.set_cons_succ]
                      refine wpAnyH_take (i := 2) (v := ?_) (by rfl) (by kernel_rfl) (by kernel_rfl) (by kernel_rfl) (by exact fun _ _ _ h => h) (Or.inl ⟨by rfl, ?_⟩) hHeld ?_
                      rotate_left
                      · (intro w hSw; (try dsimp only at hSw); go_simp; try with_reducible rfl)
                      simp only [Act.put, List.getElem_toArray, List.getElem_cons_succ, List.getElem_cons_zero, List.setIfInBounds_toArray, List.set_cons_zero, List.set_cons_succ]
                      refine wpAnyH_take (i := 3) (v := ?_) (by rfl) (by kernel_rfl) (by kernel_rfl) (by kernel_rfl) (by exact fun _ _ _ h => h) (Or.inl ⟨by rfl, ?_⟩) hHeld ?_
                      rotate_left
                      · (intro w hSw; (try dsimp only at hSw); go_simp; try with_reducible rfl)
                      simp only [Act.put, List.getElem_toArray, List.getElem_cons_succ, List.getElem_cons_zero, List.setIfInBounds_toArray, List.set_cons_zero, List.set_cons_succ]
                      refine wpAnyH_take (i := 4) (v := ?_) (by rfl) (by kernel_rfl) (by kernel_rfl) (by kernel_rfl) (by exact fun _ _ _ h => h) (Or.inl ⟨by rfl, ?_⟩) hHeld ?_
                      rotate_left
                      · (intro w hSw; (try dsimp only at hSw); go_simp; try with_reducible rfl)
                      simp only [Act.put, List.getElem_toArray, List.getElem_cons_succ, List.getElem_cons_zero, List.setIfInBounds_toArray, List.set_cons_zero, List.set_cons_succ]
                      refine wpAnyH_take (i := 5) (v := ?_) (by rfl) (by kernel_rfl) (by kernel_rfl) (by kernel_rfl) (by exact fun _ _ _ h => h) (Or.inl ⟨by rfl, ?_⟩) hHeld ?_
                      rotate_left
                      · (intro w hSw; (try dsimp only at hSw); go_simp; try with_reducible rfl)
                      simp only [Act.put, List.getElem_toArray, List.getElem_cons_succ, List.getElem_cons_zero, List.setIfInBounds_toArray, List.set_cons_zero, List.set_cons_succ]
                      refine wpAnyH_take (i := 6) (v := ?_) (by rfl) (by kernel_rfl) (by kernel_rfl) (by kernel_rfl) (by exact fun _ _ _ h => h) (Or.inl ⟨by rfl, ?_⟩) hHeld ?_
                      rotate_left
                      · (intro w hSw; (try dsimp only at hSw); go_simp; try with_reducible rfl)
                      simp only [Act.put, List.getElem_toArray, List.getElem_cons_succ, List.getElem_cons_zero, List.setIfInBounds_toArray, List.set_cons_zero, List.set_cons_succ]
                      refine wpAnyH_take (i := 7) (v := ?_) (by rfl) (by kernel_rfl) (by kernel_rfl) (by kernel_rfl) (by exact fun _ _ _ h => h) (Or.inl ⟨by rfl, ?_⟩) hHeld ?_
                      rotate_left
                      · (intro w hSw; (try dsimp only at hSw); go_simp; try with_reducible rfl)
                      simp only [Act.put, List.getElem_toArray, List.getElem_cons_succ, List.getElem_cons_zero, List.setIfInBounds_toArray, List.set_cons_zero, List.set_cons_succ]
                      refine wpAnyH_take (i := 8) (v := ?_) (by rfl) (by kernel_rfl) (by kernel_rfl) (by kernel_rfl) (by exact fun _ _ _ h => h) (Or.inl ⟨by rfl, ?_⟩) hHeld ?_
                      rotate_left
                      · (intro w hSw; (try dsimp only at hSw); go_simp; try with_reducible rfl)
                      simp only [Act.put, List.getElem_toArray, List.getElem_cons_succ, List.getElem_cons_zero, List.setIfInBounds_toArray, List.set_cons_zero, List.set_cons_succ]
                      refine wpAnyH_take (i := 9) (v := undef) (by rfl) (by kernel_rfl) (by kernel_rfl) (by kernel_rfl) (by exact fun _ _ _ h => h) (Or.inr ⟨by rfl, rfl⟩) hHeld ?_
                      simp only [Act.put, List.getElem_toArray, List.getElem_cons_succ, List.getElem_cons_zero, List.setIfInBounds_toArray, List.set_cons_zero, List.set_cons_succ]
                      refine wpAnyH_take (i := 10) (v := undef) (by rfl) (by kernel_rfl) (by kernel_rfl) (by kernel_rfl) (by exact fun _ _ _ h => h) (Or.inr ⟨by rfl, rfl⟩) hHeld ?_
                      simp only [Act.put, List.getElem_toArray, List.getElem_cons_succ, List.getElem_cons_zero, List.setIfInBounds_toArray, List.set_cons_zero, List.set_cons_succ]
                      refine wpAnyH_take (i := 11) (v := undef) (by rfl) (by kernel_rfl) (by kernel_rfl) (by kernel_rfl) (by exact fun _ _ _ h => h) (Or.inr ⟨by rfl, rfl⟩) hHeld ?_
                      simp only [Act.put, List.getElem_toArray, List.getElem_cons_succ, List.getElem_cons_zero, List.setIfInBounds_toArray, List.set_cons_zero, List.set_cons_succ]
                      refine wpAnyH_take (i := 12) (v := undef) (by rfl) (by kernel_rfl) (by kernel_rfl) (by kernel_rfl) (by exact fun _ _ _ h => h) (Or.inr ⟨by rfl, rfl⟩) hHeld ?_
                      simp only [Act.put, List.getElem_toArray, List.getElem_cons_succ, List.getElem_cons_zero, List.setIfInBounds_toArray, List.set_cons_zero, List.set_cons_succ]
                      refine wpAnyH_take (i := 13) (v := undef) (by rfl) (by kernel_rfl) (by kernel_rfl) (by kernel_rfl) (by exact fun _ _ _ h => h) (Or.inr ⟨by rfl, rfl⟩) hHeld ?_
                      simp only [Act.put, List.getElem_toArray, List.getElem_cons_succ, List.getElem_cons_zero, List.setIfInBounds_toArray, List.set_cons_zero, List.set_cons_succ]
                      refine wpAnyH_take (i := 14) (v := undef) (by rfl) (by kernel_rfl) (by kernel_rfl) (by kernel_rfl) (by exact fun _ _ _ h => h) (Or.inr ⟨by rfl, rfl⟩) hHeld ?_
                      simp only [Act.put, List.getElem_toArray, List.getElem_cons_succ, List.getElem_cons_zero, List.setIfInBounds_toArray, List.set_cons_zero, List.set_cons_succ]
                      refine wpAnyH_take (i := 15) (v := undef) (by rfl) (by kernel_rfl) (by kernel_rfl) (by kernel_rfl) (by exact fun _ _ _ h => h) (Or.inr ⟨by rfl, rfl⟩) hHeld ?_
                      simp only [Act.put, List.getElem_toArray, List.getElem_cons_succ, List.getElem_cons_zero, List.setIfInBounds_toArray, List.set_cons_zero, List.set_cons_succ]
                      refine wpAnyH_take (i := 16) (v := undef) (by rfl) (by kernel_rfl) (by kernel_rfl) (by kernel_rfl) (by exact fun _ _ _ h => h) (Or.inr ⟨by rfl, rfl⟩) hHeld ?_
                      simp only [Act.put, List.getElem_toArray, List.getElem_cons_succ, List.getElem_cons_zero, List.setIfInBounds_toArray, List.set_cons_zero, List.set_cons_succ]
                      refine wpAnyH_take (i := 17) (v := ?_) (by rfl) (by kernel_rfl) (by kernel_rfl) (by kernel_rfl) (by exact fun _ _ _ h => h) (Or.inl ⟨by rfl, ?_⟩) hHeld ?_
                      rotate_left
                      · (intro w hSw; (try dsimp only at hSw); go_simp; try with_reducible rfl)
                      simp only [Act.put, List.getElem_toArray, List.getElem_cons_succ, List.getElem_cons_zero, List.setIfInBounds_toArray, List.set_cons_zero, List.set_cons_succ]
                      try simp only [Act.put, List.getElem_toArray, List.getElem_cons_succ, List.getElem_cons_zero, List.setIfInBounds_toArray, List.set_cons_zero, List.set_cons_succ]
                      refine wpAnyH_done (by kernel_rfl) ?_ _
                      rw [← e11]
                      clear e11
                      replace hbi := hbi.trans (hb11.mono hbi.size)
                      clear hr
                      replace g0 := ((bcell hb11).1 bW (oW + H * 7) hbW).trans g0
                      replace g1 := ((bcell hb11).1 bW (oW + H * 7 + 1) hbW).trans g1
                      have hXs := hXr.on hb11
                      have hNr := hN10.below hbi
                      have hNl : evsN.length = D.length := HLN.out
                      have hDl : D.length = D.length := rfl
                      have hKl : K < D.length := by omega
                      obtain ⟨hst, hE2⟩ := hE.step hHl hKl (by rw [← HEN.out]; exact HEC.out)
                      rw [← HEN.out] at hst
                      obtain ⟨p, ep⟩ : ∃ p, p = evsN[K]'(by omega) := ⟨_, rfl⟩
                      have hpx : p.x = n.x := by
                        rw [ep, hst, hNr.get K (by omega) (by omega)]
                      obtain ⟨bN, oN, rfl, hbN, r0, r1, r2, r3, r4, r5, r6⟩ := ev_at_k (Rd.own hNr.row) K (by omega)
                      have hel := hNr.lists p (by rw [ep]; exact List.getElem_mem _)
                      rw [← ep] at r0 r1 r2 r3 r4 r5 r6
                      clear ep hst hNl hDl hNr
                      obtain ⟨vpN, vfN, xN⟩ := p
                      simp only at hpx
                      subst hpx
                      replace r0 : w11.cell? ⟨bN, oN + K * 7, none⟩ = some (S n.x.key) := r0
                      replace r1 : w11.cell? ⟨bN, oN + K * 7 + 1, none⟩ = some (vpN) := r1
                      replace r2 : w11.cell? ⟨bN, oN + K * 7 + 2, none⟩ = some (.int .i64 n.x.st) := r2
                      replace r3 : w11.cell? ⟨bN, oN + K * 7 + 3, none⟩ = some (vfN) := r3
                      replace r4 : w11.cell? ⟨bN, oN + K * 7 + 4, none⟩ = some (S n.x.body) := r4
                      replace r5 : w11.cell? ⟨bN, oN + K * 7 + 5, none⟩ = some (.int .i64 n.x.asked) := r5
                      replace r6 : w11.cell? ⟨bN, oN + K * 7 + 6, none⟩ = some (.int .i64 n.x.came) := r6
                      have q0 := g0
                      have q1 := g1
                      have q2 := ((bcell hb11).1 bW (oW + H * 7 + 2) hbW).trans g2
                      have q3 := ((bcell hb11).1 bW (oW + H * 7 + 3) hbW).trans g3
                      have q4 := ((bcell hb11).1 bW (oW + H * 7 + 4) hbW).trans g4
                      have q5 := ((bcell hb11).1 bW (oW + H * 7 + 5) hbW).trans g5
                      have q6 := ((bcell hb11).1 bW (oW + H * 7 + 6) hbW).trans g6
                      have fp' := fp.below hb11
                      have ff' := ff.below hb11
                      have hSm := refSame_eq ⟨n.x.key, vpW, n.x.st, vfW, n.x.body, n.x.asked, n.x.came⟩ vpN vfN n.x.lp n.x.lf w11.drew (show Fs w11.drew.heap.size w11.drew vpW n.x.lp from (fp'.mono hb11.size).drew) (show Fs w11.drew.heap.size w11.drew vfW n.x.lf from (ff'.mono hb11.size).drew) (show Fs w11.drew.heap.size w11.drew vpN n.x.lp from Fs.own hel.1) (show Fs w11.drew.heap.size w11.drew vfN n.x.lf from Fs.own hel.2)
                      simp only [En.val] at hSm
                      clear hel fp ff fp' ff' g0 g1 g2 g3 g4 g5 g6 x0 x1 hXs hXe hXr hRr hRI
                      go_wp2_with fail
                      go_region_held3 (fun wx => wx.cell? ⟨bW, oW + H * 7, none⟩ = some (S n.x.key) ∧ wx.cell? ⟨bW, oW + H * 7 + 1, none⟩ = some (vpW) ∧ wx.cell? ⟨bW, oW + H * 7 + 2, none⟩ = some (.int .i64 n.x.st) ∧ wx.cell? ⟨bW, oW + H * 7 + 3, none⟩ = some (vfW) ∧ wx.cell? ⟨bW, oW + H * 7 + 4, none⟩ = some (S n.x.body) ∧ wx.cell? ⟨bW, oW + H * 7 + 5, none⟩ = some (.int .i64 n.x.asked) ∧ wx.cell? ⟨bW, oW + H * 7 + 6, none⟩ = some (.int .i64 n.x.came) ∧ wx.cell? ⟨bN, oN + K * 7, none⟩ = some (S n.x.key) ∧ wx.cell? ⟨bN, oN + K * 7 + 1, none⟩ = some (vpN) ∧ wx.cell? ⟨bN, oN + K * 7 + 2, none⟩ = some (.int .i64 n.x.st) ∧ wx.cell? ⟨bN, oN + K * 7 + 3, none⟩ = some (vfN) ∧ wx.cell? ⟨bN, oN + K * 7 + 4, none⟩ = some (S n.x.body) ∧ wx.cell? ⟨bN, oN + K * 7 + 5, none⟩ = some (.int .i64 n.x.asked) ∧ wx.cell? ⟨bN, oN + K * 7 + 6, none⟩ = some (.int .i64 n.x.came))
                        (first | go_keep)
                        ((go_at_call 15; (with_reducible refine hSm.mono ?_); rintro e w12 ⟨rfl, hb12⟩; replace hb12 := Bl.undrew hb12; replace q0 := ((bcell hb12).1 bW (oW + H * 7) (Nat.lt_of_lt_of_le hbW hb11.size)).trans q0; replace q1 := ((bcell hb12).1 bW (oW + H * 7 + 1) (Nat.lt_of_lt_of_le hbW hb11.size)).trans q1; replace q2 := ((bcell hb12).1 bW (oW + H * 7 + 2) (Nat.lt_of_lt_of_le hbW hb11.size)).trans q2; replace q3 := ((bcell hb12).1 bW (oW + H * 7 + 3) (Nat.lt_of_lt_of_le hbW hb11.size)).trans q3; replace q4 := ((bcell hb12).1 bW (oW + H * 7 + 4) (Nat.lt_of_lt_of_le hbW hb11.size)).trans q4; replace q5 := ((bcell hb12).1 bW (oW + H * 7 + 5) (Nat.lt_of_lt_of_le hbW hb11.size)).trans q5; replace q6 := ((bcell hb12).1 bW (oW + H * 7 + 6) (Nat.lt_of_lt_of_le hbW hb11.size)).trans q6; replace r0 := ((bcell hb12).1 bN (oN + K * 7) hbN).trans r0; replace r1 := ((bcell hb12).1 bN (oN + K * 7 + 1) hbN).trans r1; replace r2 := ((bcell hb12).1 bN (oN + K * 7 + 2) hbN).trans r2; replace r3 := ((bcell hb12).1 bN (oN + K * 7 + 3) hbN).trans r3; replace r4 := ((bcell hb12).1 bN (oN + K * 7 + 4) hbN).trans r4; replace r5 := ((bcell hb12).1 bN (oN + K * 7 + 5) hbN).trans r5; replace r6 := ((bcell hb12).1 bN (oN + K * 7 + 6) hbN).trans r6))
                      all_goals
                        go_wp2_with fail
                        go_roundw
                        case rel => exact ⟨H, K, by go_num, by go_num, by omega, by omega, hE2, hbi.trans (hb12.mono hbi.size)⟩
                        case measure => (first | (simp [intOf]; done) | (simp [intOf]; omega))
          · obtain rfl : j = k := by omega
            go_wp2
            go_ret
            exact ⟨rfl, by rw [← HB.out]; exact hwr⟩
    ·
      have hdec : decide (k < others.length) = false := by simp; omega
      obtain ⟨w2, rfl⟩ : ∃ w2 : World, w2 = wr := ⟨_, rfl⟩
      have hB2 : B ≤ w2.heap.size := by omega
      have hL : ((others.take k).map Dof : List Dv).length = k := by
        rw [List.length_map, List.length_take]
        omega
      obtain ⟨L, eL⟩ : ∃ L : List Dv, L = (others.take k).map Dof := ⟨_, rfl⟩
      have hLok : ∀ d ∈ L, d.Ok := by
        rw [eL]
        intro d hd
        obtain ⟨x, hx, rfl⟩ := List.mem_map.1 hd
        exact Dof_ok (hoks x (List.mem_of_mem_take hx))
      have hD2 : Ds w2.heap.size w2 (.slice av k cv) L := by
        refine ⟨?_, ?_⟩
        · rw [eL, hL]
          exact Rd.own hown
        · rw [eL]
          intro d hd
          obtain ⟨x, hx, rfl⟩ := List.mem_map.1 hd
          have := hor.2 x (List.mem_of_mem_take hx)
          exact ⟨this.1.mono hB2, this.2.mono hB2, Rd.nil _ _ _⟩
      rw [← eL] at hL
      clear eL hown hbr hor hoks
      go_wp2_with fail
      refine (few19_any L _ w2 hD2 hLok).mono ?_
      rintro e w3 ⟨b, rfl, hsm, hb3⟩
      have HSM := Lib.hid hsm
      clear hsm
      have hw3 : Below B w w3 := hwr.trans (hb3.mono hB2)
      have hD3 := (hD2.below hb3).mono hb3.size
      have hB3 : B ≤ w3.heap.size := Nat.le_trans hB2 hb3.size
      clear hD2 hb3 hwr hLok hB2
      cases b with
      | false =>
        go_wp2
        go_ret
        exact ⟨rfl, by rw [← HB.out]; exact hw3⟩
      | true =>
      have HSm : Hid (∀ d ∈ L, Small d) := fun d hd => HSM.out rfl d (by rw [List.take_of_length_le (by omega)]; exact hd)
      clear HSM
      by_cases hm0 : most < 0
      · have t1 : decide (most < 0) = true := by simpa using hm0
        go_wp2
        go_ret
        exact ⟨rfl, by rw [← HB.out]; exact hw3⟩
      by_cases hm1 : (1048576 : Int) < most
      · have t1 : decide (most < 0) = false := by simpa using hm0
        have t2 : decide ((1048576 : Int) < most) = true := by simpa using hm1
        go_wp2
        go_ret
        exact ⟨rfl, by rw [← HB.out]; exact hw3⟩
      obtain ⟨M, rfl⟩ : ∃ M : Nat, most = (M : Int) := ⟨most.toNat, by omega⟩
      have hM : M ≤ 1048576 := by omega
      have t1 : decide ((M : Int) < 0) = false := by
        rw [decide_eq_false_iff_not]
        omega
      have t2 : decide ((1048576 : Int) < (M : Int)) = false := by
        rw [decide_eq_false_iff_not]
        omega
      have t3 : decide (1048576 < M) = false := by
        rw [decide_eq_false_iff_not]
        omega
      clear hm0 hm1
      have HN := New_any (M : Int) (by omega) (by omega) w3
      go_wp2_with fail
      refine HN.mono ?_
      rintro e w4 ⟨rfl, hb4, n1, n2, n3⟩
      have hs4 : Sh w3.heap.size w3.heap.size w4 (w3.heap.size + 2) w3.heap.size (w3.heap.size + 1) (M : Int) 0 [] := sh_new n1 n2 n3 (Nat.le_refl _) (by omega) (by omega)
      obtain ⟨R, eR⟩ : ∃ R, R = w3.heap.size := ⟨_, rfl⟩
      rw [← eR] at hs4 hB3 hb4 hD3 ⊢
      have hw4 : Below B w w4 := hw3.trans (hb4.mono hB3)
      have hD4 := hD3.below hb4
      clear HN n1 n2 n3 hb4 hw3 hD3 eR t1 t2 t3
      go_wp2
      go_loopw [9] (fun i wr => ∃ (j : Nat) (last : Int) (l : List Nd), i = .int .i64 j ∧ j ≤ k ∧ Sh R R wr (R + 2) R (R + 1) (M : Int) last l ∧ (∀ n ∈ l, n.x.id ≤ last) ∧ 0 ≤ last ∧ last ≤ (j : Int) ∧ Below R w4 wr) (fun i _ => k - (intOf i).toNat)
      case atStart => exact ⟨0, 0, [], rfl, Nat.zero_le _, hs4, by simp, Int.le_refl _, Int.le_refl _, Below.refl _ _⟩
      case round =>
        obtain ⟨j, last, l, rfl, hj2, hs, hids, hla, hla2, hbr⟩ := hrel
        have hwr : Below B w wr := hw4.trans (hbr.mono hB3)
        have hDr := hD4.below hbr
        have hRr : R < wr.heap.size := hs.rlt
        obtain ⟨wo, rfl⟩ : ∃ wo : World, wo = wr := ⟨_, rfl⟩
        by_cases hlt : j < k
        · obtain ⟨b, off, rfl, hbb, c0, c1, c2, c3, c4, c5, c6, c7, c8, c9⟩ := hDr.at j (by omega)
          have hdd := hDr.2 (L[j]'(by omega)) (List.getElem_mem _)
          have hdS := HSm.out (L[j]'(by omega)) (List.getElem_mem _)
          obtain ⟨d, ed⟩ : ∃ d, d = L[j]'(by omega) := ⟨_, rfl⟩
          rw [← ed] at c0 c1 c2 c3 c4 c5 c6 c7 c8 c9 hdd hdS
          clear ed
          obtain ⟨kind, num, ⟨xkey, xvp, xst, xvf, xbody, xa, xc⟩, xvl, xlp, xlf, xll⟩ := d
          obtain ⟨axp, kxp, hxp, -⟩ := hdd.1.form
          obtain ⟨axf, kxf, hxf, -⟩ := hdd.2.1.form
          simp only at c2 c3 c4 c5 c6 c7 c8 hxp hxf
          subst hxp hxf
          have hxp : Fs R wo (.slice axp xlp.length kxp) xlp := hdd.1
          have hxf : Fs R wo (.slice axf xlf.length kxf) xlf := hdd.2.1
          have r1 : xkey.length ≤ 65536 := hdS.key
          have r2 : xbody.length ≤ 2097152 := hdS.body
          have r3 : fsum xlp ≤ 551600 := hdS.sum
          have r4 : fsum xlf ≤ 131072 := hdS.lf
          have d3 : wo.cell? ⟨b, off + j * 10 + 2 + 1, none⟩ = some (.slice axp xlp.length kxp) := c3
          have d4 : wo.cell? ⟨b, off + j * 10 + 2 + 2, none⟩ = some (.int .i64 xst) := c4
          have d5 : wo.cell? ⟨b, off + j * 10 + 2 + 3, none⟩ = some (.slice axf xlf.length kxf) := c5
          have d6 : wo.cell? ⟨b, off + j * 10 + 2 + 4, none⟩ = some (S xbody) := c6
          have d7 : wo.cell? ⟨b, off + j * 10 + 2 + 5, none⟩ = some (.int .i64 xa) := c7
          have d8 : wo.cell? ⟨b, off + j * 10 + 2 + 6, none⟩ = some (.int .i64 xc) := c8
          obtain ⟨wx, ex⟩ : ∃ wx : World, wx = wo.alloc (.cells #[S xkey, .slice axp xlp.length kxp, .int .i64 xst, .slice axf xlf.length kxf, S xbody, .int .i64 xa, .int .i64 xc] 28) := ⟨_, rfl⟩
          obtain ⟨X, eX⟩ : ∃ X, X = wo.heap.size := ⟨_, rfl⟩
          have hX : Blk wx X 28 #[S xkey, .slice axp xlp.length kxp, .int .i64 xst, .slice axf xlf.length kxf, S xbody, .int .i64 xa, .int .i64 xc] := by rw [ex, eX]; exact Blk.new _ _ _
          have hbx : Below wo.heap.size wo wx := by rw [ex]; exact (Below.refl _ _).alloc (Nat.le_refl _) _
          have hsx := hs.below hbx
          have hRx : R < wx.heap.size := hsx.rlt
          have hRX : Below R wo wx := hbx.mono (Nat.le_of_lt hRr)
          have HW := Lib.hid ex
          have HX := Lib.hid eX
          clear ex eX hbx hdd hdS
          go_upto_region 17 with fail
          rw [← HX.out, ← HW.out]
          clear HX HW c0 c1 c2 c3 c4 c5 c6 c7 c8 c9 d3 d4 d5 d6 d7 d8
          have hAll := ShAll_any R R (R + 2) R (R + 1) (M : Int) last l wx hsx
          go_wp2_with fail
          refine hAll.mono ?_
          rintro e wy ⟨vW, evsW, rfl, hW, hby⟩
          obtain ⟨aW, cW, hvW⟩ := row_form hW.row
          subst hvW
          have hXy := hX.on hby
          have hsy := hsx.below hby
          have hRY : Below R wo wy := hRX.trans (hby.mono (Nat.le_of_lt hRx))
          have hRy : R < wy.heap.size := hsy.rlt
          have hpst : ∀ w', But (Foot (R + 2) R (R + 1) l) wy w' → Below R wo w' := fun w' hb => hRY.trans (hb.below hsy.base (Nat.le_of_lt hRy))
          have hpz : ∀ w', But (Foot (R + 2) R (R + 1) l) wy w' → R ≤ w'.heap.size := fun w' hb => Nat.le_trans (Nat.le_of_lt hRy) hb.size
          have hXo : ¬ Foot (R + 2) R (R + 1) l X := hsy.off hXy (by decide) (by decide)
          clear hX hsx hRX hRx hby hAll hs hRr
          (have x0 : wy.cell? ⟨X, 0, none⟩ = some (S xkey) := hXy.cell 0; have x1 : wy.cell? ⟨X, 1, none⟩ = some (.slice axp xlp.length kxp) := hXy.cell 1; have x2 : wy.cell? ⟨X, 2, none⟩ = some (.int .i64 xst) := hXy.cell 2; have x3 : wy.cell? ⟨X, 3, none⟩ = some (.slice axf xlf.length kxf) := hXy.cell 3; have x4 : wy.cell? ⟨X, 4, none⟩ = some (S xbody) := hXy.cell 4; have x5 : wy.cell? ⟨X, 5, none⟩ = some (.int .i64 xa) := hXy.cell 5; have x6 : wy.cell? ⟨X, 6, none⟩ = some (.int .i64 xc) := hXy.cell 6)
          by_cases hc : 64 + xkey.length + xbody.length + fsum xlf + fsum xlp ≤ M
          · have hPut := Put_any R R (R + 2) R (R + 1) (M : Int) last l ⟨xkey, .slice axp xlp.length kxp, xst, .slice axf xlf.length kxf, xbody, xa, xc⟩ xlp xlf wy hsy (Nat.le_of_lt hRy) (Nat.le_of_lt hRy) (fun w' hb => (hxp.below (hpst w' hb)).mono (hpz w' hb)) (fun w' hb => (hxf.below (hpst w' hb)).mono (hpz w' hb)) (by show xkey.length ≤ _; omega) (by show xbody.length ≤ _; omega) (by omega) (by omega) hids (by omega) M rfl hc
            go_wp2_with fail
            refine hPut.mono ?_
            rintro e w7 ⟨rfl, nd, hnx, -, hs7, hb7⟩
            obtain ⟨D, eD⟩ : ∃ D, D = roomOf (M - costF ⟨xkey, .slice axp xlp.length kxp, xst, .slice axf xlf.length kxf, xbody, xa, xc⟩ xlp xlf) (l.filter fun n => !alikeP xkey xlp n) := ⟨_, rfl⟩
            have hends : ∃ E, l.filter (fun n => !alikeP xkey xlp n) = E ++ D := by rw [eD]; exact roomOf_suffix _ _
            have hs7 : Sh R R w7 (R + 2) R (R + 1) (M : Int) (last + 1) (D ++ [nd]) := by rw [eD]; exact hs7
            have hids7 : ∀ n ∈ D ++ [nd], n.x.id ≤ last + 1 := by
              intro n hn
              rcases List.mem_append.1 hn with hn | hn
              · obtain ⟨E, hE⟩ := hends
                have : n ∈ l.filter (fun n => !alikeP xkey xlp n) := by rw [hE]; exact List.mem_append.2 (.inr hn)
                have := hids n (List.mem_filter.1 this).1
                omega
              · rw [List.mem_singleton.1 hn, hnx]; exact Int.le_refl _
            clear eD
            have hX7 := hXy.but hb7 hXo
            have hW7 := hW.but hsy hb7
            have hRY7 : Below R wo w7 := hpst w7 hb7
            have hll : l.length ≤ 16384 := hsy.length_le
            have hR7 : R < w7.heap.size := hs7.rlt
            have hcost := Cost_any ⟨xkey, .slice axp xlp.length kxp, xst, .slice axf xlf.length kxf, xbody, xa, xc⟩ xlp xlf w7 ((hxp.below hRY7).mono (Nat.le_of_lt hR7)) ((hxf.below hRY7).mono (Nat.le_of_lt hR7)) (by show xkey.length ≤ _; omega) (by show xbody.length ≤ _; omega) (by omega) (by omega)
            have hcf : costF ⟨xkey, .slice axp xlp.length kxp, xst, .slice axf xlf.length kxf, xbody, xa, xc⟩ xlp xlf = 64 + xkey.length + xbody.length + fsum xlf + fsum xlp := rfl
            rw [hcf] at hcost
            clear hcf
            obtain ⟨cx, ecx⟩ : ∃ cx, cx = 64 + xkey.length + xbody.length + fsum xlf + fsum xlp := ⟨_, rfl⟩
            rw [← ecx] at hcost hc
            clear ecx x0 x1 x2 x3 x4 x5 x6 hPut hpst hpz hXy hsy hW hRY hRy hXo hb7
            (have x0 : w7.cell? ⟨X, 0, none⟩ = some (S xkey) := hX7.cell 0; have x1 : w7.cell? ⟨X, 1, none⟩ = some (.slice axp xlp.length kxp) := hX7.cell 1; have x2 : w7.cell? ⟨X, 2, none⟩ = some (.int .i64 xst) := hX7.cell 2; have x3 : w7.cell? ⟨X, 3, none⟩ = some (.slice axf xlf.length kxf) := hX7.cell 3; have x4 : w7.cell? ⟨X, 4, none⟩ = some (S xbody) := hX7.cell 4; have x5 : w7.cell? ⟨X, 5, none⟩ = some (.int .i64 xa) := hX7.cell 5; have x6 : w7.cell? ⟨X, 6, none⟩ = some (.int .i64 xc) := hX7.cell 6)
            go_wp2_with fail
            refine hcost.mono ?_
            rintro e w8 ⟨rfl, hb8⟩
            have hX8 := hX7.on hb8
            have hW8 := hW7.below hb8
            have hs8 := hs7.below hb8
            have hRY8 : Below R wo w8 := hRY7.trans (hb8.mono (Nat.le_of_lt hR7))
            have hR8 : R < w8.heap.size := hs8.rlt
            obtain ⟨cs, ecs⟩ : ∃ cs, cs = costs ((D ++ [nd]).map Nd.x) := ⟨_, rfl⟩
            have hby8 : w8.cell? ⟨R + 2, 1, none⟩ = some (.int .i64 (cs : Nat)) := by rw [ecs]; exact hs8.blk.cell 1
            have hcs : (cs : Int) ≤ (M : Int) := by rw [ecs]; exact hs8.room
            have hBt := Bytes_any (R + 2) (cs : Nat) w8 hby8
            have u1 : decide ((M : Int) < (cx : Int)) = false := by simp; omega
            have u2 : decide (M < cx) = false := by simp; omega
            have u3 : decide ((M : Int) < (cs : Int)) = false := by simp; omega
            have u4 : decide (M < cs) = false := by simp; omega
            have u5 : decide (last + 1 < 1) = false := by simp; omega
            clear ecs x0 x1 x2 x3 x4 x5 x6 hX7 hW7 hs7 hRY7 hR7 hb8 hcost
            go_wp2_with fail
            refine hBt.mono ?_
            rintro e w8b ⟨rfl, e8⟩
            rw [e8]
            clear e8 w8b
            have hAll := ShAll_any R R (R + 2) R (R + 1) (M : Int) (last + 1) (D ++ [nd]) w8 hs8
            go_wp2_with fail
            refine hAll.mono ?_
            rintro e w9 ⟨vN, evsN, rfl, hN, hb9⟩
            obtain ⟨aN, cN, hvN⟩ := row_form hN.row
            subst hvN
            have hX9 := hX8.on hb9
            have hW9 := hW8.below hb9
            have hs9 := hs8.below hb9
            have hRY9 : Below R wo w9 := hRY8.trans (hb9.mono (Nat.le_of_lt hR8))
            have hR9 : R < w9.heap.size := hs9.rlt
            have hlN := hN.len
            have hlW := hW9.len
            have hlc := hs9.length_le
            clear u1 u2 u3 u4 hX8 hW8 hs8 hRY8 hR8 hb9 hAll hBt hby8 hcs
            rw [List.length_append, List.length_singleton] at hlN hlc
            obtain ⟨evl, eel⟩ : ∃ ev, ev = evsN[D.length]'(by omega) := ⟨_, rfl⟩
            have hevx : evl.x = nd.x := by
              rw [eel, hN.get D.length (by omega) (by simp)]
              simp
            obtain ⟨bN, oN, rfl, hbN, g0, g1, g2, g3, g4, g5, g6⟩ := ev_at_k (Rd.own hN.row) D.length (by omega)
            have hel := hN.lists evl (by rw [eel]; exact List.getElem_mem _)
            rw [← eel] at g0 g1 g2 g3 g4 g5 g6
            clear eel
            obtain ⟨vpl, vfl, xl⟩ := evl
            simp only at hevx
            rw [hnx] at hevx
            subst hevx
            replace g0 : w9.cell? ⟨bN, oN + D.length * 7, none⟩ = some (S xkey) := g0
            replace g1 : w9.cell? ⟨bN, oN + D.length * 7 + 1, none⟩ = some vpl := g1
            replace g2 : w9.cell? ⟨bN, oN + D.length * 7 + 2, none⟩ = some (.int .i64 xst) := g2
            replace g3 : w9.cell? ⟨bN, oN + D.length * 7 + 3, none⟩ = some vfl := g3
            replace g4 : w9.cell? ⟨bN, oN + D.length * 7 + 4, none⟩ = some (S xbody) := g4
            replace g5 : w9.cell? ⟨bN, oN + D.length * 7 + 5, none⟩ = some (.int .i64 xa) := g5
            replace g6 : w9.cell? ⟨bN, oN + D.length * 7 + 6, none⟩ = some (.int .i64 xc) := g6
            have hSm := refSame_eq ⟨xkey, vpl, xst, vfl, xbody, xa, xc⟩ (.slice axp xlp.length kxp) (.slice axf xlf.length kxf) xlp xlf w9.drew (show Fs w9.drew.heap.size w9.drew vpl xlp from Fs.own hel.1) (show Fs w9.drew.heap.size w9.drew vfl xlf from Fs.own hel.2) (show Fs w9.drew.heap.size w9.drew _ xlp from (hxp.below hRY9).mono (Nat.le_of_lt hR9)) (show Fs w9.drew.heap.size w9.drew _ xlf from (hxf.below hRY9).mono (Nat.le_of_lt hR9))
            simp only [En.val] at hSm
            obtain ⟨dn, edn⟩ : ∃ dn, dn = D.length := ⟨_, rfl⟩
            rw [← edn] at g0 g1 g2 g3 g4 g5 g6 hlc hlN
            rw [hlN]
            have HDN := Lib.hid edn
            have HLN := Lib.hid hlN
            clear hel edn hlN
            (have x0 : w9.cell? ⟨X, 0, none⟩ = some (S xkey) := hX9.cell 0; have x1 : w9.cell? ⟨X, 1, none⟩ = some (.slice axp xlp.length kxp) := hX9.cell 1; have x2 : w9.cell? ⟨X, 2, none⟩ = some (.int .i64 xst) := hX9.cell 2; have x3 : w9.cell? ⟨X, 3, none⟩ = some (.slice axf xlf.length kxf) := hX9.cell 3; have x4 : w9.cell? ⟨X, 4, none⟩ = some (S xbody) := hX9.cell 4; have x5 : w9.cell? ⟨X, 5, none⟩ = some (.int .i64 xa) := hX9.cell 5; have x6 : w9.cell? ⟨X, 6, none⟩ = some (.int .i64 xc) := hX9.cell 6)
            have t0 : ((dn : Int) + 1 == 0) = false := by
              rw [beq_eq_false_iff_ne]
              omega
            have t1 : IntKind.i64.wrap (dn : Int) = dn := IntWalk.i64_in _ (by omega)
            have t2 : ((dn : Int) < (dn : Int) + 1) = True := by simp; omega
            go_wp2_with fail
            refine wp_region_held_drew (S := (fun wx => wx.cell? ⟨bN, oN + dn * 7, none⟩ = some (S xkey) ∧ wx.cell? ⟨bN, oN + dn * 7 + 1, none⟩ = some (vpl) ∧ wx.cell? ⟨bN, oN + dn * 7 + 2, none⟩ = some (.int .i64 xst) ∧ wx.cell? ⟨bN, oN + dn * 7 + 3, none⟩ = some (vfl) ∧ wx.cell? ⟨bN, oN + dn * 7 + 4, none⟩ = some (S xbody) ∧ wx.cell? ⟨bN, oN + dn * 7 + 5, none⟩ = some (.int .i64 xa) ∧ wx.cell? ⟨bN, oN + dn * 7 + 6, none⟩ = some (.int .i64 xc) ∧ wx.cell? ⟨X, 0, none⟩ = some (S xkey) ∧ wx.cell? ⟨X, 1, none⟩ = some (.slice axp xlp.length kxp) ∧ wx.cell? ⟨X, 2, none⟩ = some (.int .i64 xst) ∧ wx.cell? ⟨X, 3, none⟩ = some (.slice axf xlf.length kxf) ∧ wx.cell? ⟨X, 4, none⟩ = some (S xbody) ∧ wx.cell? ⟨X, 5, none⟩ = some (.int .i64 xa) ∧ wx.cell? ⟨X, 6, none⟩ = some (.int .i64 xc))) (by kernel_rfl) ⟨g0, g1, g2, g3, g4, g5, g6, x0, x1, x2, x3, x4, x5, x6⟩ (fun hHeld => ?_)
            refine wpAnyH_take (i := 0) (v := ?_) (by rfl) (by kernel_rfl) (by kernel_rfl) (by kernel_rfl) (by exact fun _ _ _ h => h) (Or.inl ⟨by rfl, ?_⟩) hHeld ?_
            rotate_left
            · (intro w hSw; (try dsimp only at hSw); go_simp; try with_reducible rfl)
            simp only [Act.put, List.getElem_toArray, List.getElem_cons_succ, List.getElem_cons_zero, List.setIfInBounds_toArray, List.set_cons_zero, List.set_cons_succ]
            refine wpAnyH_take (i := 1) (v := ?_) (by rfl) (by kernel_rfl) (by kernel_rfl) (by kernel_rfl) (by exact fun _ _ _ h => h) (Or.inl ⟨by rfl, ?_⟩) hHeld ?_
            rotate_left
            · (intro w hSw; (try dsimp only at hSw); go_simp; try with_reducible rfl)
            simp only [Act.put, List.getElem_toArray, List.getElem_cons_succ, List.getElem_cons_zero, List.setIfInBounds_toArray, List.set_cons_zero, List.set_cons_succ]
            refine wpAnyH_take (i := 2) (v := ?_) (by rfl) (by kernel_rfl) (by kernel_rfl) (by kernel_rfl) (by exact fun _ _ _ h => h) (Or.inl ⟨by rfl, ?_⟩) hHeld ?_
            rotate_left
            · (intro w hSw; (try dsimp only at hSw); go_simp; try with_reducible rfl)
            simp only [Act.put, List.getElem_toArray, List.getElem_cons_succ, List.getElem_cons_zero, List.setIfInBounds_toArray, List.set_cons_zero, List.set_cons_succ]
            refine wpAnyH_take (i := 3) (v := ?_) (by rfl) (by kernel_rfl) (by kernel_rfl) (by kernel_rfl) (by exact fun _ _ _ h => h) (Or.inl ⟨by rfl, ?_⟩) hHeld ?_
            rotate_left
            · (intro w hSw; (try dsimp only at hSw); go_simp; try with_reducible rfl)
            simp only [Act.put, List.getElem_toArray, List.getElem_cons_succ, List.getElem_cons_zero, List.setIfInBounds_toArray, List.set_cons_zero, List.set_cons_succ]
            refine wpAnyH_take (i := 4) (v := ?_) (by rfl) (by kernel_rfl) (by kernel_rfl) (by kernel_rfl) (by exact fun _ _ _ h => h) (Or.inl ⟨by rfl, ?_⟩) hHeld ?_
            rotate_left
            · (intro w hSw; (try dsimp only at hSw); go_simp; try with_reducible rfl)
            simp only [Act.put, List.getElem_toArray, List.getElem_cons_succ, List.getElem_cons_zero, List.setIfInBounds_toArray, List.set_cons_zero, List.set_cons_succ]
            refine wpAnyH_take (i := 5) (v := ?_) (by rfl) (by kernel_rfl) (by kernel_rfl) (by kernel_rfl) (by exact fun _ _ _ h => h) (Or.inl ⟨by rfl, ?_⟩) hHeld ?_
            rotate_left
            · (intro w hSw; (try dsimp only at hSw); go_simp; try with_reducible rfl)
            simp only [Act.put, List.getElem_toArray, List.getElem_cons_succ, List.getElem_cons_zero, List.setIfInBounds_toArray, List.set_cons_zero, List.set_cons_succ]
            refine wpAnyH_take (i := 6) (v := ?_) (by rfl) (by kernel_rfl) (by kernel_rfl) (by kernel_rfl) (by exact fun _ _ _ h => h) (Or.inl ⟨by rfl, ?_⟩) hHeld ?_
            rotate_left
            · (intro w hSw; (try dsimp only at hSw); go_simp; try with_reducible rfl)
            simp only [Act.put, List.getElem_toArray, List.getElem_cons_succ, List.getElem_cons_zero, List.setIfInBounds_toArray, List.set_cons_zero, List.set_cons_succ]
            refine wpAnyH_take (i := 7) (v := ?_) (by rfl) (by kernel_rfl) (by kernel_rfl) (by kernel_rfl) (by exact fun _ _ _ h => h) (Or.inl ⟨by rfl, ?_⟩) hHeld ?_
            rotate_left
            · (intro w hSw; (try dsimp only at hSw); go_simp; try with_reducible rfl)
            simp only [Act.put, List.getElem_toArray, List.getElem_cons_succ, List.getElem_cons_zero, List.setIfInBounds_toArray, List.set_cons_zero, List.set_cons_succ]
            refine wpAnyH_take (i := 8) (v := ?_) (by rfl) (by kernel_rfl) (by kernel_rfl) (by kernel_rfl) (by exact fun _ _ _ h => h) (Or.inl ⟨by rfl, ?_⟩) hHeld ?_
            rotate_left
            · (intro w hSw; (try dsimp only at hSw); go_simp; try with_reducible rfl)
            simp only [Act.put, List.getElem_toArray, List.getElem_cons_succ, List.getElem_cons_zero, List.setIfInBounds_toArray, List.set_cons_zero, List.set_cons_succ]
            refine wpAnyH_take (i := 9) (v := ?_) (by rfl) (by kernel_rfl) (by kernel_rfl) (by kernel_rfl) (by exact fun _ _ _ h => h) (Or.inl ⟨by rfl, ?_⟩) hHeld ?_
            rotate_left
            · (intro w hSw; (try dsimp only at hSw); go_simp; try with_reducible rfl)
            simp only [Act.put, List.getElem_toArray, List.getElem_cons_succ, List.getElem_cons_zero, List.setIfInBounds_toArray, List.set_cons_zero, List.set_cons_succ]
            refine wpAnyH_take (i := 10) (v := ?_) (by rfl) (by kernel_rfl) (by kernel_rfl) (by kernel_rfl) (by exact fun _ _ _ h => h) (Or.inl ⟨by rfl, ?_⟩) hHeld ?_
            rotate_left
            · (intro w hSw; (try dsimp only at hSw); go_simp; try with_reducible rfl)
            simp only [Act.put, List.getElem_toArray, List.getElem_cons_succ, List.getElem_cons_zero, List.setIfInBounds_toArray, List.set_cons_zero, List.set_cons_succ]
            refine wpAnyH_take (i := 11) (v := ?_) (by rfl) (by kernel_rfl) (by kernel_rfl) (by kernel_rfl) (by exact fun _ _ _ h => h) (Or.inl ⟨by rfl, ?_⟩) hHeld ?_
            rotate_left
            · (intro w hSw; (try dsimp only at hSw); go_simp; try with_reducible rfl)
            simp only [Act.put, List.getElem_toArray, List.getElem_cons_succ, List.getElem_cons_zero, List.setIfInBounds_toArray, List.set_cons_zero, List.set_cons_succ]
            refine wpAnyH_take (i := 12) (v := ?_) (by rfl) (by kernel_rfl) (by kernel_rfl) (by kernel_rfl) (by exact fun _ _ _ h => h) (Or.inl ⟨by rfl, ?_⟩) hHeld ?_
            rotate_left
            · (intro w hSw; (try dsimp only at hSw); go_simp; try with_reducible rfl)
            simp only [Act.put, List.getElem_toArray, List.getElem_cons_succ, List.getElem_cons_zero, List.setIfInBounds_toArray, List.set_cons_zero, List.set_cons_succ]
            refine wpAnyH_take (i := 13) (v := ?_) (by rfl) (by kernel_rfl) (by kernel_rfl) (by kernel_rfl) (by exact fun _ _ _ h => h) (Or.inl ⟨by rfl, ?_⟩) hHeld ?_
            rotate_left
            · (intro w hSw; (try dsimp only at hSw); go_simp; try with_reducible rfl)
            simp only [Act.put, List.getElem_toArray, List.getElem_cons_succ, List.getElem_cons_zero, List.setIfInBounds_toArray, List.set_cons_zero, List.set_cons_succ]
            refine wpAnyH_ready (rs := [14]) (by kernel_rfl) (by simp) ?_
            refine AllReadyH.cons (by rfl) (fun K hK => ?_) AllReadyH.nil
            go_simp
            (with_reducible refine hSm.mono ?_); rintro e w10 ⟨rfl, hb10⟩; replace hb10 := Bl.undrew hb10; have hX10 := hX9.on hb10; replace g0 := ((bcell hb10).1 bN (oN + dn * 7) hbN).trans g0; replace g1 := ((bcell hb10).1 bN (oN + dn * 7 + 1) hbN).trans g1; replace g2 := ((bcell hb10).1 bN (oN + dn * 7 + 2) hbN).trans g2; replace g3 := ((bcell hb10).1 bN (oN + dn * 7 + 3) hbN).trans g3; replace g4 := ((bcell hb10).1 bN (oN + dn * 7 + 4) hbN).trans g4; replace g5 := ((bcell hb10).1 bN (oN + dn * 7 + 5) hbN).trans g5; replace g6 := ((bcell hb10).1 bN (oN + dn * 7 + 6) hbN).trans g6; have x0 : w10.cell? ⟨X, 0, none⟩ = some (S xkey) := hX10.cell 0; have x1 : w10.cell? ⟨X, 1, none⟩ = some (.slice axp xlp.length kxp) := hX10.cell 1; have x2 : w10.cell? ⟨X, 2, none⟩ = some (.int .i64 xst) := hX10.cell 2; have x3 : w10.cell? ⟨X, 3, none⟩ = some (.slice axf xlf.length kxf) := hX10.cell 3; have x4 : w10.cell? ⟨X, 4, none⟩ = some (S xbody) := hX10.cell 4; have x5 : w10.cell? ⟨X, 5, none⟩ = some (.int .i64 xa) := hX10.cell 5; have x6 : w10.cell? ⟨X, 6, none⟩ = some (.int .i64 xc) := hX10.cell 6
            refine hK.out _ _ ⟨g0, g1, g2, g3, g4, g5, g6, x0, x1, x2, x3, x4, x5, x6⟩ (fun hHeld => ?_)
            clear hK K
            try simp only [Act.put, List.getElem_toArray, List.getElem_cons_succ, List.getElem_cons_zero, List.setIfInBounds_toArray, List.set_cons_zero, List.set_cons_succ]
            refine wpAnyH_take (i := 15) (v := ?_) (by rfl) (by kernel_rfl) (by kernel_rfl) (by kernel_rfl) (by exact fun _ _ _ h => h) (Or.inl ⟨by rfl, ?_⟩) hHeld ?_
            rotate_left
            · (intro w hSw; (try dsimp only at hSw); go_simp; try with_reducible rfl)
            simp only [Act.put, List.getElem_toArray, List.getElem_cons_succ, List.getElem_cons_zero, List.setIfInBounds_toArray, List.set_cons_zero, List.set_cons_succ]
            refine wpAnyH_take (i := 16) (v := ?_) (by rfl) (by kernel_rfl) (by kernel_rfl) (by kernel_rfl) (by exact fun _ _ _ h => h) (Or.inl ⟨by rfl, ?_⟩) hHeld ?_
            rotate_left
            · (intro w hSw; (try dsimp only at hSw); go_simp; try with_reducible rfl)
            simp only [Act.put, List.getElem_toArray, List.getElem_cons_succ, List.getElem_cons_zero, List.setIfInBounds_toArray, List.set_cons_zero, List.set_cons_succ]
            refine wpAnyH_take (i := 17) (v := ?_) (by rfl) (by kernel_rfl) (by kernel_rfl) (by kernel_rfl) (by exact fun _ _ _ h => h) (Or.inl ⟨by rfl, ?_⟩) hHeld ?_
            rotate_left
            · (intro w hSw; (try dsimp only at hSw); go_simp; try with_reducible rfl)
            simp only [Act.put, List.getElem_toArray, List.getElem_cons_succ, List.getElem_cons_zero, List.setIfInBounds_toArray, List.set_cons_zero, List.set_cons_succ]
            try simp only [Act.put, List.getElem_toArray, List.getElem_cons_succ, List.getElem_cons_zero, List.setIfInBounds_toArray, List.set_cons_zero, List.set_cons_succ]
            refine wpAnyH_done (by kernel_rfl) ?_ _
            clear hSm g0 g1 g2 g3 g4 g5 g6 x0 x1 x2 x3 x4 x5 x6
            have hs10 := hs9.below hb10
            have hW10 := hW9.below hb10
            have hN10 := hN.below hb10
            have hbO : Below R w4 w10 := (hbr.trans hRY9).trans (hb10.mono (Nat.le_of_lt hR9))
            have hwO : Below B w w10 := hwr.trans ((hRY9.trans (hb10.mono (Nat.le_of_lt hR9))).mono hB3)
            have hRO : Below R wo w10 := hRY9.trans (hb10.mono (Nat.le_of_lt hR9))
            have hR10 : R < w10.heap.size := hs10.rlt
            have HLW := Lib.hid hlW
            have hE0 := Ends.start hends
            clear hlW hends hs9 hW9 hN hX9 hb10 hR9 hRY9
            go_wp2_with fail
            go_loopw [16, 17] (fun k h wr => ∃ H K : Nat, k = .int .i64 ((K : Int) - 1) ∧ h = .int .i64 ((H : Int) - 1) ∧ H ≤ l.length ∧ K ≤ D.length ∧ Ends (alikeP xkey xlp) l D H K ∧ Below w10.heap.size w10 wr) (fun _ h _ => (intOf h + 1).toNat)
            case atStart => exact ⟨l.length, D.length, by have := HDN.out; go_num, by go_num, Nat.le_refl _, Nat.le_refl _, hE0, Below.refl _ _⟩
            case round =>
              obtain ⟨H, K, rfl, rfl, hH, hK, hE, hbi⟩ := hrel
              clear hE0
              cases H with
              | zero =>
                obtain rfl := hE.over hK
                rw [show (((0 : Nat) : Int) - 1) = -1 from rfl]
                go_wp2_with fail
                go_roundw
                case rel => exact ⟨j + 1, last + 1, D ++ [nd], by go_num, by omega, hs10.below hbi, hids7, by omega, by omega, hbO.trans (hbi.mono (Nat.le_of_lt hR10))⟩
                case measure => (first | (simp [intOf]; done) | (simp [intOf]; omega))
              | succ H =>
                rw [show (((H + 1 : Nat) : Int) - 1) = (H : Int) from by omega]
                cases K with
                | zero =>
                  rw [show (((0 : Nat) : Int) - 1) = -1 from rfl]
                  go_wp2_with fail
                  go_roundw
                  case rel => exact ⟨j + 1, last + 1, D ++ [nd], by go_num, by omega, hs10.below hbi, hids7, by omega, by omega, hbO.trans (hbi.mono (Nat.le_of_lt hR10))⟩
                  case measure => (first | (simp [intOf]; done) | (simp [intOf]; omega))
                | succ K =>
                  rw [show (((K + 1 : Nat) : Int) - 1) = (K : Int) from by omega]
                  have hXr := hX10.on hbi
                  have hWr := hW10.below hbi
                  have hWl : evsW.length = l.length := HLW.out
                  have hHl : H < l.length := by omega
                  obtain ⟨n, en⟩ : ∃ n, n = l[H]'hHl := ⟨_, rfl⟩
                  obtain ⟨q, eq⟩ : ∃ q, q = evsW[H]'(by omega) := ⟨_, rfl⟩
                  have hqx : q.x = n.x := by rw [eq, en]; exact hWr.get H (by omega) (by omega)
                  obtain ⟨bW, oW, rfl, hbW, g0, g1, g2, g3, g4, g5, g6⟩ := ev_at_k (Rd.own hWr.row) H (by omega)
                  have hel := hWr.lists q (by rw [eq]; exact List.getElem_mem _)
                  rw [← eq] at g0 g1 g2 g3 g4 g5 g6
                  clear eq hWl
                  obtain ⟨vpW, vfW, xW⟩ := q
                  simp only at hqx
                  subst hqx
                  replace g0 : wr.cell? ⟨bW, oW + H * 7, none⟩ = some (S n.x.key) := g0
                  replace g1 : wr.cell? ⟨bW, oW + H * 7 + 1, none⟩ = some vpW := g1
                  replace g2 : wr.cell? ⟨bW, oW + H * 7 + 2, none⟩ = some (.int .i64 n.x.st) := g2
                  replace g3 : wr.cell? ⟨bW, oW + H * 7 + 3, none⟩ = some vfW := g3
                  replace g4 : wr.cell? ⟨bW, oW + H * 7 + 4, none⟩ = some (S n.x.body) := g4
                  replace g5 : wr.cell? ⟨bW, oW + H * 7 + 5, none⟩ = some (.int .i64 n.x.asked) := g5
                  replace g6 : wr.cell? ⟨bW, oW + H * 7 + 6, none⟩ = some (.int .i64 n.x.came) := g6
                  have fp : Fs wr.heap.size wr vpW n.x.lp := Fs.own hel.1
                  have ff : Fs wr.heap.size wr vfW n.x.lf := Fs.own hel.2
                  have hRr : R < wr.heap.size := Nat.lt_of_lt_of_le hR10 hbi.size
                  have hRI : Below R wo wr := hRO.trans (hbi.mono (Nat.le_of_lt hR10))
                  have x0 : wr.cell? ⟨X, 0, none⟩ = some (S xkey) := hXr.cell 0
                  have x1 : wr.cell? ⟨X, 1, none⟩ = some (.slice axp xlp.length kxp) := hXr.cell 1
                  have HEN := Lib.hid en
                  clear en hel hWr
                  by_cases hk : n.x.key = xkey
                  · have hr : (n.x.key == xkey) = true := by simp [hk]
                    have hPS := PSame_any n.x.lp xlp vpW (.slice axp xlp.length kxp) wr.drew fp.drew ((hxp.below hRI.drew).mono (Nat.le_of_lt hRr))
                    obtain ⟨c, ec⟩ : ∃ c, c = (n.x.lp == xlp) := ⟨_, rfl⟩
                    rw [← ec] at hPS
                    have hal : alikeP xkey xlp n = c := by
                      unfold alikeP
                      rw [hr, ec]
                      rfl
                    have HEC := Lib.hid hal
                    clear hk ec hal
                    cases c with
                    | true =>
                      go_wp2_with fail
                      refine wp_region_held_drew (S := (fun wx => wx.cell? ⟨bW, oW + H * 7, none⟩ = some (S n.x.key) ∧ wx.cell? ⟨bW, oW + H * 7 + 1, none⟩ = some vpW ∧ wx.cell? ⟨X, 0, none⟩ = some (S xkey) ∧ wx.cell? ⟨X, 1, none⟩ = some (.slice axp xlp.length kxp))) (by kernel_rfl) ⟨g0, g1, x0, x1⟩ (fun hHeld => ?_)
                      refine wpAnyH_take (i := 0) (v := ?_) (by rfl) (by kernel_rfl) (by kernel_rfl) (by kernel_rfl) (by exact fun _ _ _ h => h) (Or.inl ⟨by rfl, ?_⟩) hHeld ?_
                      rotate_left
                      · (intro w hSw; (try dsimp only at hSw); go_simp; try with_reducible rfl)
                      simp only [Act.put, List.getElem_toArray, List.getElem_cons_succ, List.getElem_cons_zero, List.setIfInBounds_toArray, List.set_cons_zero, List.set_cons_succ]
                      refine wpAnyH_take (i := 1) (v := ?_) (by rfl) (by kernel_rfl) (by kernel_rfl) (by kernel_rfl) (by exact fun _ _ _ h => h) (Or.inl ⟨by rfl, ?_⟩) hHeld ?_
                      rotate_left
                      · (intro w hSw; (try dsimp only at hSw); go_simp; try with_reducible rfl)
                      simp only [Act.put, List.getElem_toArray, List.getElem_cons_succ, List.getElem_cons_zero, List.setIfInBounds_toArray, List.set_cons_zero, List.set_cons_succ]
                      refine wpAnyH_take (i := 2) (v := ?_) (by rfl) (by kernel_rfl) (by kernel_rfl) (by kernel_rfl) (by exact fun _ _ _ h => h) (Or.inl ⟨by rfl, ?_⟩) hHeld ?_
                      rotate_left
                      · (intro w hSw; (try dsimp only at hSw); go_simp; try with_reducible rfl)
                      simp only [Act.put, List.getElem_toArray, List.getElem_cons_succ, List.getElem_cons_zero, List.setIfInBounds_toArray, List.set_cons_zero, List.set_cons_succ]
                      refine wpAnyH_take (i := 3) (v := ?_) (by rfl) (by kernel_rfl) (by kernel_rfl) (by kernel_rfl) (by exact fun _ _ _ h => h) (Or.inl ⟨by rfl, ?_⟩) hHeld ?_
                      rotate_left
                      · (intro w hSw; (try dsimp only at hSw); go_simp; try with_reducible rfl)
                      simp only [Act.put, List.getElem_toArray, List.getElem_cons_succ, List.getElem_cons_zero, List.setIfInBounds_toArray, List.set_cons_zero, List.set_cons_succ]
                      refine wpAnyH_take (i := 4) (v := ?_) (by rfl) (by kernel_rfl) (by kernel_rfl) (by kernel_rfl) (by exact fun _ _ _ h => h) (Or.inl ⟨by rfl, ?_⟩) hHeld ?_
                      rotate_left
                      · (intro w hSw; (try dsimp only at hSw); go_simp; try with_reducible rfl)
                      simp only [Act.put, List.getElem_toArray, List.getElem_cons_succ, List.getElem_cons_zero, List.setIfInBounds_toArray, List.set_cons_zero, List.set_cons_succ]
                      refine wpAnyH_take (i := 5) (v := ?_) (by rfl) (by kernel_rfl) (by kernel_rfl) (by kernel_rfl) (by exact fun _ _ _ h => h) (Or.inl ⟨by rfl, ?_⟩) hHeld ?_
                      rotate_left
                      · (intro w hSw; (try dsimp only at hSw); go_simp; try with_reducible rfl)
                      simp only [Act.put, List.getElem_toArray, List.getElem_cons_succ, List.getElem_cons_zero, List.setIfInBounds_toArray, List.set_cons_zero, List.set_cons_succ]
                      refine wpAnyH_take (i := 6) (v := ?_) (by rfl) (by kernel_rfl) (by kernel_rfl) (by kernel_rfl) (by exact fun _ _ _ h => h) (Or.inl ⟨by rfl, ?_⟩) hHeld ?_
                      rotate_left
                      · (intro w hSw; (try dsimp only at hSw); go_simp; try with_reducible rfl)
                      simp only [Act.put, List.getElem_toArray, List.getElem_cons_succ, List.getElem_cons_zero, List.setIfInBounds_toArray, List.set_cons_zero, List.set_cons_succ]
                      refine wpAnyH_take (i := 7) (v := ?_) (by rfl) (by kernel_rfl) (by kernel_rfl) (by kernel_rfl) (by exact fun _ _ _ h => h) (Or.inl ⟨by rfl, ?_⟩) hHeld ?_
                      rotate_left
                      · (intro w hSw; (try dsimp only at hSw); go_simp; try with_reducible rfl)
                      simp only [Act.put, List.getElem_toArray, List.getElem_cons_succ, List.getElem_cons_zero, List.setIfInBounds_toArray, List.set_cons_zero, List.set_cons_succ]
                      refine wpAnyH_take (i := 8) (v := ?_) (by rfl) (by kernel_rfl) (by kernel_rfl) (by kernel_rfl) (by exact fun _ _ _ h => h) (Or.inl ⟨by rfl, ?_⟩) hHeld ?_
                      rotate_left
                      · (intro w hSw; (try dsimp only at hSw); go_simp; try with_reducible rfl)
                      simp only [Act.put, List.getElem_toArray, List.getElem_cons_succ, List.getElem_cons_zero, List.setIfInBounds_toArray, List.set_cons_zero, List.set_cons_succ]
                      refine wpAnyH_take (i := 9) (v := ?_) (by rfl) (by kernel_rfl) (by kernel_rfl) (by kernel_rfl) (by exact fun _ _ _ h => h) (Or.inl ⟨by rfl, ?_⟩) hHeld ?_
                      rotate_left
                      · (intro w hSw; (try dsimp only at hSw); go_simp; try with_reducible rfl)
                      simp only [Act.put, List.getElem_toArray, List.getElem_cons_succ, List.getElem_cons_zero, List.setIfInBounds_toArray, List.set_cons_zero, List.set_cons_succ]
                      refine wpAnyH_take (i := 10) (v := ?_) (by rfl) (by kernel_rfl) (by kernel_rfl) (by kernel_rfl) (by exact fun _ _ _ h => h) (Or.inl ⟨by rfl, ?_⟩) hHeld ?_
                      rotate_left
                      · (intro w hSw; (try dsimp only at hSw); go_simp; try with_reducible rfl)
                      simp only [Act.put, List.getElem_toArray, List.getElem_cons_succ, List.getElem_cons_zero, List.setIfInBounds_toArray, List.set_cons_zero, List.set_cons_succ]
                      refine wpAnyH_take (i := 11) (v := ?_) (by rfl) (by kernel_rfl) (by kernel_rfl) (by kernel_rfl) (by exact fun _ _ _ h => h) (Or.inl ⟨by rfl, ?_⟩) hHeld ?_
                      rotate_left
                      · (intro w hSw; (try dsimp only at hSw); go_simp; try with_reducible rfl)
                      simp only [Act.put, List.getElem_toArray, List.getElem_cons_succ, List.getElem_cons_zero, List.setIfInBounds_toArray, List.set_cons_zero, List.set_cons_succ]
                      refine wpAnyH_take (i := 12) (v := ?_) (by rfl) (by kernel_rfl) (by kernel_rfl) (by kernel_rfl) (by exact fun _ _ _ h => h) (Or.inl ⟨by rfl, ?_⟩) hHeld ?_
                      rotate_left
                      · (intro w hSw; (try dsimp only at hSw); go_simp; try with_reducible rfl)
                      simp only [Act.put, List.getElem_toArray, List.getElem_cons_succ, List.getElem_cons_zero, List.setIfInBounds_toArray, List.set_cons_zero, List.set_cons_succ]
                      refine wpAnyH_take (i := 13) (v := ?_) (by rfl) (by kernel_rfl) (by kernel_rfl) (by kernel_rfl) (by exact fun _ _ _ h => h) (Or.inl ⟨by rfl, ?_⟩) hHeld ?_
                      rotate_left
                      · (intro w hSw; (try dsimp only at hSw); go_simp; try with_reducible rfl)
                      simp only [Act.put, List.getElem_toArray, List.getElem_cons_succ, List.getElem_cons_zero, List.setIfInBounds_toArray, List.set_cons_zero, List.set_cons_succ]
                      refine wpAnyH_take (i := 14) (v := ?_) (by rfl) (by kernel_rfl) (by kernel_rfl) (by kernel_rfl) (by exact fun _ _ _ h => h) (Or.inl ⟨by rfl, ?_⟩) hHeld ?_
                      rotate_left
                      · (intro w hSw; (try dsimp only at hSw); go_simp; try with_reducible rfl)
                      simp only [Act.put, List.getElem_toArray, List.getElem_cons_succ, List.getElem_cons_zero, List.setIfInBounds_toArray, List.set_cons_zero, List.set_cons_succ]
                      refine wpAnyH_take (i := 15) (v := ?_) (by rfl) (by kernel_rfl) (by kernel_rfl) (by kernel_rfl) (by exact fun _ _ _ h => h) (Or.inl ⟨by rfl, ?_⟩) hHeld ?_
                      rotate_left
                      · (intro w hSw; (try dsimp only at hSw); go_simp; try with_reducible rfl)
                      simp only [Act.put, List.getElem_toArray, List.getElem_cons_succ, List.getElem_cons_zero, List.setIfInBounds_toArray, List.set_cons_zero, List.set_cons_succ]
                      refine wpAnyH_ready (rs := [16]) (by kernel_rfl) (by simp) ?_
                      refine AllReadyH.cons (by rfl) (fun K hK => ?_) AllReadyH.nil
                      go_simp
                      (with_reducible refine hPS.mono ?_); rintro e w11 ⟨rfl, hb11⟩; replace hb11 := Bl.undrew hb11; have hXe := hXr.on hb11; replace x0 : w11.cell? ⟨X, 0, none⟩ = some (S xkey) := hXe.cell 0; replace x1 : w11.cell? ⟨X, 1, none⟩ = some (.slice axp xlp.length kxp) := hXe.cell 1; replace g0 := ((bcell hb11).1 bW (oW + H * 7) hbW).trans g0; replace g1 := ((bcell hb11).1 bW (oW + H * 7 + 1) hbW).trans g1
                      refine hK.out _ _ ⟨g0, g1, x0, x1⟩ (fun hHeld => ?_)
                      clear hK K
                      try simp only [Act.put, List.getElem_toArray, List.getElem_cons_succ, List.getElem_cons_zero, List.setIfInBounds_toArray, List.set_cons_zero, List.set_cons_succ]
                      refine wpAnyH_take (i := 17) (v := ?_) (by rfl) (by kernel_rfl) (by kernel_rfl) (by kernel_rfl) (by exact fun _ _ _ h => h) (Or.inl ⟨by rfl, ?_⟩) hHeld ?_
                      rotate_left
                      · (intro w hSw; (try dsimp only at hSw); go_simp; try with_reducible rfl)
                      simp only [Act.put, List.getElem_toArray, List.getElem_cons_succ, List.getElem_cons_zero, List.setIfInBounds_toArray, List.set_cons_zero, List.set_cons_succ]
                      try simp only [Act.put, List.getElem_toArray, List.getElem_cons_succ, List.getElem_cons_zero, List.setIfInBounds_toArray, List.set_cons_zero, List.set_cons_succ]
                      refine wpAnyH_done (by kernel_rfl) ?_ _
                      go_wp2_with fail
                      go_roundw
                      case rel => exact ⟨H, K + 1, by go_num, by go_num, by omega, hK, hE.skip (by omega) (by rw [← HEN.out]; exact HEC.out), hbi.trans (hb11.mono hbi.size)⟩
                      case measure => (first | (simp [intOf]; done) | (simp [intOf]; omega))
                    | false =>
                      go_wp2_with fail
                      refine wp_region_held_drew (S := (fun wx => wx.cell? ⟨bW, oW + H * 7, none⟩ = some (S n.x.key) ∧ wx.cell? ⟨bW, oW + H * 7 + 1, none⟩ = some vpW ∧ wx.cell? ⟨X, 0, none⟩ = some (S xkey) ∧ wx.cell? ⟨X, 1, none⟩ = some (.slice axp xlp.length kxp))) (by kernel_rfl) ⟨g0, g1, x0, x1⟩ (fun hHeld => ?_)
                      refine wpAnyH_take (i := 0) (v := ?_) (by rfl) (by kernel_rfl) (by kernel_rfl) (by kernel_rfl) (by exact fun _ _ _ h => h) (Or.inl ⟨by rfl, ?_⟩) hHeld ?_
                      rotate_left
                      · (intro w hSw; (try dsimp only at hSw); go_simp; try with_reducible rfl)
                      simp only [Act.put, List.getElem_toArray, List.getElem_cons_succ, List.getElem_cons_zero, List.setIfInBounds_toArray, List.set_cons_zero, List.set_cons_succ]
                      refine wpAnyH_take (i := 1) (v := ?_) (by rfl) (by kernel_rfl) (by kernel_rfl) (by kernel_rfl) (by exact fun _ _ _ h => h) (Or.inl ⟨by rfl, ?_⟩) hHeld ?_
                      rotate_left
                      · (intro w hSw; (try dsimp only at hSw); go_simp; try with_reducible rfl)
                      simp only [Act.put, List.getElem_toArray, List.getElem_cons_succ, List.getElem_cons_zero, List.setIfInBounds_toArray, List.set_cons_zero, List.set_cons_succ]
                      refine wpAnyH_take (i := 2) (v := ?_) (by rfl) (by kernel_rfl) (by kernel_rfl) (by kernel_rfl) (by exact fun _ _ _ h => h) (Or.inl ⟨by rfl, ?_⟩) hHeld ?_
                      rotate_left
                      · (intro w hSw; (try dsimp only at hSw); go_simp; try with_reducible rfl)
                      simp only [Act.put, List.getElem_toArray, List.getElem_cons_succ, List.getElem_cons_zero, List.setIfInBounds_toArray, List.set_cons_zero, List.set_cons_succ]
                      refine wpAnyH_take (i := 3) (v := ?_) (by rfl) (by kernel_rfl) (by kernel_rfl) (by kernel_rfl) (by exact fun _ _ _ h => h) (Or.inl ⟨by rfl, ?_⟩) hHeld ?_
                      rotate_left
                      · (intro w hSw; (try dsimp only at hSw); go_simp; try with_reducible rfl)
                      simp only [Act.put, List.getElem_toArray, List.getElem_cons_succ, List.getElem_cons_zero, List.setIfInBounds_toArray, List.set_cons_zero, List.set_cons_succ]
                      refine wpAnyH_take (i := 4) (v := ?_) (by rfl) (by kernel_rfl) (by kernel_rfl) (by kernel_rfl) (by exact fun _ _ _ h => h) (Or.inl ⟨by rfl, ?_⟩) hHeld ?_
                      rotate_left
                      · (intro w hSw; (try dsimp only at hSw); go_simp; try with_reducible rfl)
                      simp only [Act.put, List.getElem_toArray, List.getElem_cons_succ, List.getElem_cons_zero, List.setIfInBounds_toArray, List.set_cons_zero, List.set_cons_succ]
                      refine wpAnyH_take (i := 5) (v := ?_) (by rfl) (by kernel_rfl) (by kernel_rfl) (by kernel_rfl) (by exact fun _ _ _ h => h) (Or.inl ⟨by rfl, ?_⟩) hHeld ?_
                      rotate_left
                      · (intro w hSw; (try dsimp only at hSw); go_simp; try with_reducible rfl)
                      simp only [Act.put, List.getElem_toArray, List.getElem_cons_succ, List.getElem_cons_zero, List.setIfInBounds_toArray, List.set_cons_zero, List.set_cons_succ]
                      refine wpAnyH_take (i := 6) (v := ?_) (by rfl) (by kernel_rfl) (by kernel_rfl) (by kernel_rfl) (by exact fun _ _ _ h => h) (Or.inl ⟨by rfl, ?_⟩) hHeld ?_
                      rotate_left
                      · (intro w hSw; (try dsimp only at hSw); go_simp; try with_reducible rfl)
                      simp only [Act.put, List.getElem_toArray, List.getElem_cons_succ, List.getElem_cons_zero, List.setIfInBounds_toArray, List.set_cons_zero, List.set_cons_succ]
                      refine wpAnyH_take (i := 7) (v := ?_) (by rfl) (by kernel_rfl) (by kernel_rfl) (by kernel_rfl) (by exact fun _ _ _ h => h) (Or.inl ⟨by rfl, ?_⟩) hHeld ?_
                      rotate_left
                      · (intro w hSw; (try dsimp only at hSw); go_simp; try with_reducible rfl)
                      simp only [Act.put, List.getElem_toArray, List.getElem_cons_succ, List.getElem_cons_zero, List.setIfInBounds_toArray, List.set_cons_zero, List.set_cons_succ]
                      refine wpAnyH_take (i := 8) (v := ?_) (by rfl) (by kernel_rfl) (by kernel_rfl) (by kernel_rfl) (by exact fun _ _ _ h => h) (Or.inl ⟨by rfl, ?_⟩) hHeld ?_
                      rotate_left
                      · (intro w hSw; (try dsimp only at hSw); go_simp; try with_reducible rfl)
                      simp only [Act.put, List.getElem_toArray, List.getElem_cons_succ, List.getElem_cons_zero, List.setIfInBounds_toArray, List.set_cons_zero, List.set_cons_succ]
                      refine wpAnyH_take (i := 9) (v := ?_) (by rfl) (by kernel_rfl) (by kernel_rfl) (by kernel_rfl) (by exact fun _ _ _ h => h) (Or.inl ⟨by rfl, ?_⟩) hHeld ?_
                      rotate_left
                      · (intro w hSw; (try dsimp only at hSw); go_simp; try with_reducible rfl)
                      simp only [Act.put, List.getElem_toArray, List.getElem_cons_succ, List.getElem_cons_zero, List.setIfInBounds_toArray, List.set_cons_zero, List.set_cons_succ]
                      refine wpAnyH_take (i := 10) (v := ?_) (by rfl) (by kernel_rfl) (by kernel_rfl) (by kernel_rfl) (by exact fun _ _ _ h => h) (Or.inl ⟨by rfl, ?_⟩) hHeld ?_
                      rotate_left
                      · (intro w hSw; (try dsimp only at hSw); go_simp; try with_reducible rfl)
                      simp only [Act.put, List.getElem_toArray, List.getElem_cons_succ, List.getElem_cons_zero, List.setIfInBounds_toArray, List.set_cons_zero, List.set_cons_succ]
                      refine wpAnyH_take (i := 11) (v := ?_) (by rfl) (by kernel_rfl) (by kernel_rfl) (by kernel_rfl) (by exact fun _ _ _ h => h) (Or.inl ⟨by rfl, ?_⟩) hHeld ?_
                      rotate_left
                      · (intro w hSw; (try dsimp only at hSw); go_simp; try with_reducible rfl)
                      simp only [Act.put, List.getElem_toArray, List.getElem_cons_succ, List.getElem_cons_zero, List.setIfInBounds_toArray, List.set_cons_zero, List.set_cons_succ]
                      refine wpAnyH_take (i := 12) (v := ?_) (by rfl) (by kernel_rfl) (by kernel_rfl) (by kernel_rfl) (by exact fun _ _ _ h => h) (Or.inl ⟨by rfl, ?_⟩) hHeld ?_
                      rotate_left
                      · (intro w hSw; (try dsimp only at hSw); go_simp; try with_reducible rfl)
                      simp only [Act.put, List.getElem_toArray, List.getElem_cons_succ, List.getElem_cons_zero, List.setIfInBounds_toArray, List.set_cons_zero, List.set_cons_succ]
                      refine wpAnyH_take (i := 13) (v := ?_) (by rfl) (by kernel_rfl) (by kernel_rfl) (by kernel_rfl) (by exact fun _ _ _ h => h) (Or.inl ⟨by rfl, ?_⟩) hHeld ?_
                      rotate_left
                      · (intro w hSw; (try dsimp only at hSw); go_simp; try with_reducible rfl)
                      simp only [Act.put, List.getElem_toArray, List.getElem_cons_succ, List.getElem_cons_zero, List.setIfInBounds_toArray, List.set_cons_zero, List.set_cons_succ]
                      refine wpAnyH_take (i := 14) (v := ?_) (by rfl) (by kernel_rfl) (by kernel_rfl) (by kernel_rfl) (by exact fun _ _ _ h => h) (Or.inl ⟨by rfl, ?_⟩) hHeld ?_
                      rotate_left
                      · (intro w hSw; (try dsimp only at hSw); go_simp; try with_reducible rfl)
                      simp only [Act.put, List.getElem_toArray, List.getElem_cons_succ, List.getElem_cons_zero, List.setIfInBounds_toArray, List.set_cons_zero, List.set_cons_succ]
                      refine wpAnyH_take (i := 15) (v := ?_) (by rfl) (by kernel_rfl) (by kernel_rfl) (by kernel_rfl) (by exact fun _ _ _ h => h) (Or.inl ⟨by rfl, ?_⟩) hHeld ?_
                      rotate_left
                      · (intro w hSw; (try dsimp only at hSw); go_simp; try with_reducible rfl)
                      simp only [Act.put, List.getElem_toArray, List.getElem_cons_succ, List.getElem_cons_zero, List.setIfInBounds_toArray, List.set_cons_zero, List.set_cons_succ]
                      refine wpAnyH_ready (rs := [16]) (by kernel_rfl) (by simp) ?_
                      refine AllReadyH.cons (by rfl) (fun K hK => ?_) AllReadyH.nil
                      go_simp
                      (with_reducible refine hPS.mono ?_); rintro e w11 ⟨rfl, hb11⟩; replace hb11 := Bl.undrew hb11; have hXe := hXr.on hb11; replace x0 : w11.cell? ⟨X, 0, none⟩ = some (S xkey) := hXe.cell 0; replace x1 : w11.cell? ⟨X, 1, none⟩ = some (.slice axp xlp.length kxp) := hXe.cell 1; replace g0 := ((bcell hb11).1 bW (oW + H * 7) hbW).trans g0; replace g1 := ((bcell hb11).1 bW (oW + H * 7 + 1) hbW).trans g1
                      refine hK.out _ _ ⟨g0, g1, x0, x1⟩ (fun hHeld => ?_)
                      clear hK K
                      try simp only [Act.put, List.getElem_toArray, List.getElem_cons_succ, List.getElem_cons_zero, List.setIfInBounds_toArray, List.set_cons_zero, List.set_cons_succ]
                      refine wpAnyH_take (i := 17) (v := ?_) (by rfl) (by kernel_rfl) (by kernel_rfl) (by kernel_rfl) (by exact fun _ _ _ h => h) (Or.inl ⟨by rfl, ?_⟩) hHeld ?_
                      rotate_left
                      · (intro w hSw; (try dsimp only at hSw); go_simp; try with_reducible rfl)
                      simp only [Act.put, List.getElem_toArray, List.getElem_cons_succ, List.getElem_cons_zero, List.setIfInBounds_toArray, List.set_cons_zero, List.set_cons_succ]
                      try simp only [Act.put, List.getElem_toArray, List.getElem_cons_succ, List.getElem_cons_zero, List.setIfInBounds_toArray, List.set_cons_zero, List.set_cons_succ]
                      refine wpAnyH_done (by kernel_rfl) ?_ _
                      replace hbi := hbi.trans (hb11.mono hbi.size)
                      clear hPS hr
                      have hXs := hXr.on hb11
                      have hNr := hN10.below hbi
                      have hNl : evsN.length = dn + 1 := HLN.out
                      have hDl : D.length = dn := HDN.out.symm
                      have hKl : K < D.length := by omega
                      obtain ⟨hst, hE2⟩ := hE.step hHl hKl (by rw [← HEN.out]; exact HEC.out)
                      rw [← HEN.out] at hst
                      obtain ⟨p, ep⟩ : ∃ p, p = evsN[K]'(by omega) := ⟨_, rfl⟩
                      have hpx : p.x = n.x := by
                        rw [ep, hst, hNr.get K (by omega) (by rw [List.length_append]; omega)]
                        congr 1
                        exact List.getElem_append_left hKl
                      obtain ⟨bN2, oN2, hbo, hbN2, r0, r1, r2, r3, r4, r5, r6⟩ := ev_at_k (Rd.own hNr.row) K (by omega)
                      simp only [Option.some.injEq, Addr.mk.injEq, and_true] at hbo
                      obtain ⟨rfl, rfl⟩ := hbo
                      have hbNQ := hbN2
                      have hel := hNr.lists p (by rw [ep]; exact List.getElem_mem _)
                      rw [← ep] at r0 r1 r2 r3 r4 r5 r6
                      have hKd : K < dn + 1 := by omega
                      have hKd1 : K ≤ dn := by omega
                      have hKd2 : (K : Int) < (dn : Int) + 1 := by omega
                      clear ep hst hNl hDl hNr
                      obtain ⟨vpN, vfN, xN⟩ := p
                      simp only at hpx
                      subst hpx
                      replace r0 : w11.cell? ⟨bN, oN + K * 7, none⟩ = some (S n.x.key) := r0
                      replace r1 : w11.cell? ⟨bN, oN + K * 7 + 1, none⟩ = some (vpN) := r1
                      replace r2 : w11.cell? ⟨bN, oN + K * 7 + 2, none⟩ = some (.int .i64 n.x.st) := r2
                      replace r3 : w11.cell? ⟨bN, oN + K * 7 + 3, none⟩ = some (vfN) := r3
                      replace r4 : w11.cell? ⟨bN, oN + K * 7 + 4, none⟩ = some (S n.x.body) := r4
                      replace r5 : w11.cell? ⟨bN, oN + K * 7 + 5, none⟩ = some (.int .i64 n.x.asked) := r5
                      replace r6 : w11.cell? ⟨bN, oN + K * 7 + 6, none⟩ = some (.int .i64 n.x.came) := r6
                      have q0 := g0
                      have q1 := g1
                      have q2 := ((bcell hb11).1 bW (oW + H * 7 + 2) hbW).trans g2
                      have q3 := ((bcell hb11).1 bW (oW + H * 7 + 3) hbW).trans g3
                      have q4 := ((bcell hb11).1 bW (oW + H * 7 + 4) hbW).trans g4
                      have q5 := ((bcell hb11).1 bW (oW + H * 7 + 5) hbW).trans g5
                      have q6 := ((bcell hb11).1 bW (oW + H * 7 + 6) hbW).trans g6
                      have fp' := fp.below hb11
                      have ff' := ff.below hb11
                      have hSm := refSame_eq ⟨n.x.key, vpW, n.x.st, vfW, n.x.body, n.x.asked, n.x.came⟩ vpN vfN n.x.lp n.x.lf w11.drew (show Fs w11.drew.heap.size w11.drew vpW n.x.lp from (fp'.mono hb11.size).drew) (show Fs w11.drew.heap.size w11.drew vfW n.x.lf from (ff'.mono hb11.size).drew) (show Fs w11.drew.heap.size w11.drew vpN n.x.lp from Fs.own hel.1) (show Fs w11.drew.heap.size w11.drew vfN n.x.lf from Fs.own hel.2)
                      simp only [En.val] at hSm
                      clear hel fp ff fp' ff' g0 g1 g2 g3 g4 g5 g6 x0 x1 hXs hXe hXr hRr hRI
                      go_wp2_with fail
                      go_region_held3 (fun wx => wx.cell? ⟨bW, oW + H * 7, none⟩ = some (S n.x.key) ∧ wx.cell? ⟨bW, oW + H * 7 + 1, none⟩ = some (vpW) ∧ wx.cell? ⟨bW, oW + H * 7 + 2, none⟩ = some (.int .i64 n.x.st) ∧ wx.cell? ⟨bW, oW + H * 7 + 3, none⟩ = some (vfW) ∧ wx.cell? ⟨bW, oW + H * 7 + 4, none⟩ = some (S n.x.body) ∧ wx.cell? ⟨bW, oW + H * 7 + 5, none⟩ = some (.int .i64 n.x.asked) ∧ wx.cell? ⟨bW, oW + H * 7 + 6, none⟩ = some (.int .i64 n.x.came) ∧ wx.cell? ⟨bN, oN + K * 7, none⟩ = some (S n.x.key) ∧ wx.cell? ⟨bN, oN + K * 7 + 1, none⟩ = some (vpN) ∧ wx.cell? ⟨bN, oN + K * 7 + 2, none⟩ = some (.int .i64 n.x.st) ∧ wx.cell? ⟨bN, oN + K * 7 + 3, none⟩ = some (vfN) ∧ wx.cell? ⟨bN, oN + K * 7 + 4, none⟩ = some (S n.x.body) ∧ wx.cell? ⟨bN, oN + K * 7 + 5, none⟩ = some (.int .i64 n.x.asked) ∧ wx.cell? ⟨bN, oN + K * 7 + 6, none⟩ = some (.int .i64 n.x.came))
                        (first | go_keep)
                        ((go_at_call 15; (with_reducible refine hSm.mono ?_); rintro e w12 ⟨rfl, hb12⟩; replace hb12 := Bl.undrew hb12; replace q0 := ((bcell hb12).1 bW (oW + H * 7) (Nat.lt_of_lt_of_le hbW hb11.size)).trans q0; replace q1 := ((bcell hb12).1 bW (oW + H * 7 + 1) (Nat.lt_of_lt_of_le hbW hb11.size)).trans q1; replace q2 := ((bcell hb12).1 bW (oW + H * 7 + 2) (Nat.lt_of_lt_of_le hbW hb11.size)).trans q2; replace q3 := ((bcell hb12).1 bW (oW + H * 7 + 3) (Nat.lt_of_lt_of_le hbW hb11.size)).trans q3; replace q4 := ((bcell hb12).1 bW (oW + H * 7 + 4) (Nat.lt_of_lt_of_le hbW hb11.size)).trans q4; replace q5 := ((bcell hb12).1 bW (oW + H * 7 + 5) (Nat.lt_of_lt_of_le hbW hb11.size)).trans q5; replace q6 := ((bcell hb12).1 bW (oW + H * 7 + 6) (Nat.lt_of_lt_of_le hbW hb11.size)).trans q6; replace r0 := ((bcell hb12).1 bN (oN + K * 7) hbNQ).trans r0; replace r1 := ((bcell hb12).1 bN (oN + K * 7 + 1) hbNQ).trans r1; replace r2 := ((bcell hb12).1 bN (oN + K * 7 + 2) hbNQ).trans r2; replace r3 := ((bcell hb12).1 bN (oN + K * 7 + 3) hbNQ).trans r3; replace r4 := ((bcell hb12).1 bN (oN + K * 7 + 4) hbNQ).trans r4; replace r5 := ((bcell hb12).1 bN (oN + K * 7 + 5) hbNQ).trans r5; replace r6 := ((bcell hb12).1 bN (oN + K * 7 + 6) hbNQ).trans r6))
                      all_goals
                        go_wp2_with fail
                        go_roundw
                        case rel => exact ⟨H, K, by go_num, by go_num, by omega, by omega, hE2, hbi.trans (hb12.mono hbi.size)⟩
                        case measure => (first | (simp [intOf]; done) | (simp [intOf]; omega))
                  · have hr : (n.x.key == xkey) = false := by simp [hk]
                    have HEC := Lib.hid (show alikeP xkey xlp n = false by unfold alikeP; rw [hr]; rfl)
                    clear hk
                    obtain ⟨w11, e11⟩ : ∃ w11 : World, w11 = wr.drew := ⟨_, rfl⟩
                    have hb11 : Below wr.heap.size wr w11 := by rw [e11]; exact (Below.refl _ _).drew
                    have hXe := hXr.on hb11
                    go_wp2_with fail
                    refine wp_region_held_drew (S := (fun wx => wx.cell? ⟨bW, oW + H * 7, none⟩ = some (S n.x.key) ∧ wx.cell? ⟨bW, oW + H * 7 + 1, none⟩ = some vpW ∧ wx.cell? ⟨X, 0, none⟩ = some (S xkey) ∧ wx.cell? ⟨X, 1, none⟩ = some (.slice axp xlp.length kxp))) (by kernel_rfl) ⟨g0, g1, x0, x1⟩ (fun hHeld => ?_)
                    refine wpAnyH_take (i := 0) (v := ?_) (by rfl) (by kernel_rfl) (by kernel_rfl) (by kernel_rfl) (by exact fun _ _ _ h => h) (Or.inl ⟨by rfl, ?_⟩) hHeld ?_
                    rotate_left
                    · (intro w hSw; (try dsimp only at hSw); go_simp; try with_reducible rfl)
                    simp only [Act.put, List.getElem_toArray, List.getElem_cons_succ, List.getElem_cons_zero, List.setIfInBounds_toArray, List.set_cons_zero, List.set_cons_succ]
                    refine wpAnyH_take (i := 1) (v := ?_) (by rfl) (by kernel_rfl) (by kernel_rfl) (by kernel_rfl) (by exact fun _ _ _ h => h) (Or.inl ⟨by rfl, ?_⟩) hHeld ?_
                    rotate_left
                    · (intro w hSw; (try dsimp only at hSw); go_simp; try with_reducible rfl)
                    simp only [Act.put, List.getElem_toArray, List.getElem_cons_succ, List.getElem_cons_zero, List.setIfInBounds_toArray, List.set_cons_zero, List.set_cons_succ]
                    refine wpAnyH_take (i := 2) (v := ?_) (by rfl) (by kernel_rfl) (by kernel_rfl) (by kernel_rfl) (by exact fun _ _ _ h => h) (Or.inl ⟨by rfl, ?_⟩) hHeld ?_
                    rotate_left
                    · (intro w hSw; (try dsimp only at hSw); go_simp; try with_reducible rfl)
                    simp only [Act.put, List.getElem_toArray, List.getElem_cons_succ, List.getElem_cons_zero, List.setIfInBounds_toArray, List.set_cons_zero, List.set_cons_succ]
                    refine wpAnyH_take (i := 3) (v := ?_) (by rfl) (by kernel_rfl) (by kernel_rfl) (by kernel_rfl) (by exact fun _ _ _ h => h) (Or.inl ⟨by rfl, ?_⟩) hHeld ?_
                    rotate_left
                    · (intro w hSw; (try dsimp only at hSw); go_simp; try with_reducible rfl)
                    simp only [Act.put, List.getElem_toArray, List.getElem_cons_succ, List.getElem_cons_zero, List.setIfInBounds_toArray, List.set_cons_zero, List.set_cons_succ]
                    refine wpAnyH_take (i := 4) (v := ?_) (by rfl) (by kernel_rfl) (by kernel_rfl) (by kernel_rfl) (by exact fun _ _ _ h => h) (Or.inl ⟨by rfl, ?_⟩) hHeld ?_
                    rotate_left
                    · (intro w hSw; (try dsimp only at hSw); go_simp; try with_reducible rfl)
                    simp only [Act.put, List.getElem_toArray, List.getElem_cons_succ, List.getElem_cons_zero, List.setIfInBounds_toArray, List.set_cons_zero, List.set_cons_succ]
                    refine wpAnyH_take (i := 5) (v := ?_) (by rfl) (by kernel_rfl) (by kernel_rfl) (by kernel_rfl) (by exact fun _ _ _ h => h) (Or.inl ⟨by rfl, ?_⟩) hHeld ?_
                    rotate_left
                    · (intro w hSw; (try dsimp only at hSw); go_simp; try with_reducible rfl)
                    simp only [Act.put, List.getElem_toArray, List.getElem_cons_succ, List.getElem_cons_zero, List.setIfInBounds_toArray, List.set_cons_zero, List.set_cons_succ]
                    refine wpAnyH_take (i := 6) (v := ?_) (by rfl) (by kernel_rfl) (by kernel_rfl) (by kernel_rfl) (by exact fun _ _ _ h => h) (Or.inl ⟨by rfl, ?_⟩) hHeld ?_
                    rotate_left
                    · (intro w hSw; (try dsimp only at hSw); go_simp; try with_reducible rfl)
                    simp only [Act.put, List.getElem_toArray, List.getElem_cons_succ, List.getElem_cons_zero, List.setIfInBounds_toArray, List.set_cons_zero, List.set_cons_succ]
                    refine wpAnyH_take (i := 7) (v := ?_) (by rfl) (by kernel_rfl) (by kernel_rfl) (by kernel_rfl) (by exact fun _ _ _ h => h) (Or.inl ⟨by rfl, ?_⟩) hHeld ?_
                    rotate_left
                    · (intro w hSw; (try dsimp only at hSw); go_simp; try with_reducible rfl)
                    simp only [Act.put, List.getElem_toArray, List.getElem_cons_succ, List.getElem_cons_zero, List.setIfInBounds_toArray, List.set_cons_zero, List.set_cons_succ]
                    refine wpAnyH_take (i := 8) (v := ?_) (by rfl) (by kernel_rfl) (by kernel_rfl) (by kernel_rfl) (by exact fun _ _ _ h => h) (Or.inl ⟨by rfl, ?_⟩) hHeld ?_
                    rotate_left
                    · (intro w hSw; (try dsimp only at hSw); go_simp; try with_reducible rfl)
                    simp only [Act.put, List.getElem_toArray, List.getElem_cons_succ, List.getElem_cons_zero, List.setIfInBounds_toArray, List.set_cons_zero, List.set_cons_succ]
                    refine wpAnyH_take (i := 9) (v := undef) (by rfl) (by kernel_rfl) (by kernel_rfl) (by kernel_rfl) (by exact fun _ _ _ h => h) (Or.inr ⟨by rfl, rfl⟩) hHeld ?_
                    simp only [Act.put, List.getElem_toArray, List.getElem_cons_succ, List.getElem_cons_zero, List.setIfInBounds_toArray, List.set_cons_zero, List.set_cons_succ]
                    refine wpAnyH_take (i := 10) (v := undef) (by rfl) (by kernel_rfl) (by kernel_rfl) (by kernel_rfl) (by exact fun _ _ _ h => h) (Or.inr ⟨by rfl, rfl⟩) hHeld ?_
                    simp only [Act.put, List.getElem_toArray, List.getElem_cons_succ, List.getElem_cons_zero, List.setIfInBounds_toArray, List.set_cons_zero, List.set_cons_succ]
                    refine wpAnyH_take (i := 11) (v := undef) (by rfl) (by kernel_rfl) (by kernel_rfl) (by kernel_rfl) (by exact fun _ _ _ h => h) (Or.inr ⟨by rfl, rfl⟩) hHeld ?_
                    simp only [Act.put, List.getElem_toArray, List.getElem_cons_succ, List.getElem_cons_zero, List.setIfInBounds_toArray, List.set_cons_zero, List.set_cons_succ]
                    refine wpAnyH_take (i := 12) (v := undef) (by rfl) (by kernel_rfl) (by kernel_rfl) (by kernel_rfl) (by exact fun _ _ _ h => h) (Or.inr ⟨by rfl, rfl⟩) hHeld ?_
                    simp only [Act.put, List.getElem_toArray, List.getElem_cons_succ, List.getElem_cons_zero, List.setIfInBounds_toArray, List.set_cons_zero, List.set_cons_succ]
                    refine wpAnyH_take (i := 13) (v := undef) (by rfl) (by kernel_rfl) (by kernel_rfl) (by kernel_rfl) (by exact fun _ _ _ h => h) (Or.inr ⟨by rfl, rfl⟩) hHeld ?_
                    simp only [Act.put, List.getElem_toArray, List.getElem_cons_succ, List.getElem_cons_zero, List.setIfInBounds_toArray, List.set_cons_zero, List.set_cons_succ]
                    refine wpAnyH_take (i := 14) (v := undef) (by rfl) (by kernel_rfl) (by kernel_rfl) (by kernel_rfl) (by exact fun _ _ _ h => h) (Or.inr ⟨by rfl, rfl⟩) hHeld ?_
                    simp only [Act.put, List.getElem_toArray, List.getElem_cons_succ, List.getElem_cons_zero, List.setIfInBounds_toArray, List.set_cons_zero, List.set_cons_succ]
                    refine wpAnyH_take (i := 15) (v := undef) (by rfl) (by kernel_rfl) (by kernel_rfl) (by kernel_rfl) (by exact fun _ _ _ h => h) (Or.inr ⟨by rfl, rfl⟩) hHeld ?_
                    simp only [Act.put, List.getElem_toArray, List.getElem_cons_succ, List.getElem_cons_zero, List.setIfInBounds_toArray, List.set_cons_zero, List.set_cons_succ]
                    refine wpAnyH_take (i := 16) (v := undef) (by rfl) (by kernel_rfl) (by kernel_rfl) (by kernel_rfl) (by exact fun _ _ _ h => h) (Or.inr ⟨by rfl, rfl⟩) hHeld ?_
                    simp only [Act.put, List.getElem_toArray, List.getElem_cons_succ, List.getElem_cons_zero, List.setIfInBounds_toArray, List.set_cons_zero, List.set_cons_succ]
                    refine wpAnyH_take (i := 17) (v := ?_) (by rfl) (by kernel_rfl) (by kernel_rfl) (by kernel_rfl) (by exact fun _ _ _ h => h) (Or.inl ⟨by rfl, ?_⟩) hHeld ?_
                    rotate_left
                    · (intro w hSw; (try dsimp only at hSw); go_simp; try with_reducible rfl)
                    simp only [Act.put, List.getElem_toArray, List.getElem_cons_succ, List.getElem_cons_zero, List.setIfInBounds_toArray, List.set_cons_zero, List.set_cons_succ]
                    try simp only [Act.put, List.getElem_toArray, List.getElem_cons_succ, List.getElem_cons_zero, List.setIfInBounds_toArray, List.set_cons_zero, List.set_cons_succ]
                    refine wpAnyH_done (by kernel_rfl) ?_ _
                    rw [← e11]
                    clear e11
                    replace hbi := hbi.trans (hb11.mono hbi.size)
                    clear hr
                    replace g0 := ((bcell hb11).1 bW (oW + H * 7) hbW).trans g0
                    replace g1 := ((bcell hb11).1 bW (oW + H * 7 + 1) hbW).trans g1
                    have hXs := hXr.on hb11
                    have hNr := hN10.below hbi
                    have hNl : evsN.length = dn + 1 := HLN.out
                    have hDl : D.length = dn := HDN.out.symm
                    have hKl : K < D.length := by omega
                    obtain ⟨hst, hE2⟩ := hE.step hHl hKl (by rw [← HEN.out]; exact HEC.out)
                    rw [← HEN.out] at hst
                    obtain ⟨p, ep⟩ : ∃ p, p = evsN[K]'(by omega) := ⟨_, rfl⟩
                    have hpx : p.x = n.x := by
                      rw [ep, hst, hNr.get K (by omega) (by rw [List.length_append]; omega)]
                      congr 1
                      exact List.getElem_append_left hKl
                    obtain ⟨bN2, oN2, hbo, hbN2, r0, r1, r2, r3, r4, r5, r6⟩ := ev_at_k (Rd.own hNr.row) K (by omega)
                    simp only [Option.some.injEq, Addr.mk.injEq, and_true] at hbo
                    obtain ⟨rfl, rfl⟩ := hbo
                    have hbNQ := hbN2
                    have hel := hNr.lists p (by rw [ep]; exact List.getElem_mem _)
                    rw [← ep] at r0 r1 r2 r3 r4 r5 r6
                    have hKd : K < dn + 1 := by omega
                    have hKd1 : K ≤ dn := by omega
                    have hKd2 : (K : Int) < (dn : Int) + 1 := by omega
                    clear ep hst hNl hDl hNr
                    obtain ⟨vpN, vfN, xN⟩ := p
                    simp only at hpx
                    subst hpx
                    replace r0 : w11.cell? ⟨bN, oN + K * 7, none⟩ = some (S n.x.key) := r0
                    replace r1 : w11.cell? ⟨bN, oN + K * 7 + 1, none⟩ = some (vpN) := r1
                    replace r2 : w11.cell? ⟨bN, oN + K * 7 + 2, none⟩ = some (.int .i64 n.x.st) := r2
                    replace r3 : w11.cell? ⟨bN, oN + K * 7 + 3, none⟩ = some (vfN) := r3
                    replace r4 : w11.cell? ⟨bN, oN + K * 7 + 4, none⟩ = some (S n.x.body) := r4
                    replace r5 : w11.cell? ⟨bN, oN + K * 7 + 5, none⟩ = some (.int .i64 n.x.asked) := r5
                    replace r6 : w11.cell? ⟨bN, oN + K * 7 + 6, none⟩ = some (.int .i64 n.x.came) := r6
                    have q0 := g0
                    have q1 := g1
                    have q2 := ((bcell hb11).1 bW (oW + H * 7 + 2) hbW).trans g2
                    have q3 := ((bcell hb11).1 bW (oW + H * 7 + 3) hbW).trans g3
                    have q4 := ((bcell hb11).1 bW (oW + H * 7 + 4) hbW).trans g4
                    have q5 := ((bcell hb11).1 bW (oW + H * 7 + 5) hbW).trans g5
                    have q6 := ((bcell hb11).1 bW (oW + H * 7 + 6) hbW).trans g6
                    have fp' := fp.below hb11
                    have ff' := ff.below hb11
                    have hSm := refSame_eq ⟨n.x.key, vpW, n.x.st, vfW, n.x.body, n.x.asked, n.x.came⟩ vpN vfN n.x.lp n.x.lf w11.drew (show Fs w11.drew.heap.size w11.drew vpW n.x.lp from (fp'.mono hb11.size).drew) (show Fs w11.drew.heap.size w11.drew vfW n.x.lf from (ff'.mono hb11.size).drew) (show Fs w11.drew.heap.size w11.drew vpN n.x.lp from Fs.own hel.1) (show Fs w11.drew.heap.size w11.drew vfN n.x.lf from Fs.own hel.2)
                    simp only [En.val] at hSm
                    clear hel fp ff fp' ff' g0 g1 g2 g3 g4 g5 g6 x0 x1 hXs hXe hXr hRr hRI
                    go_wp2_with fail
                    go_region_held3 (fun wx => wx.cell? ⟨bW, oW + H * 7, none⟩ = some (S n.x.key) ∧ wx.cell? ⟨bW, oW + H * 7 + 1, none⟩ = some (vpW) ∧ wx.cell? ⟨bW, oW + H * 7 + 2, none⟩ = some (.int .i64 n.x.st) ∧ wx.cell? ⟨bW, oW + H * 7 + 3, none⟩ = some (vfW) ∧ wx.cell? ⟨bW, oW + H * 7 + 4, none⟩ = some (S n.x.body) ∧ wx.cell? ⟨bW, oW + H * 7 + 5, none⟩ = some (.int .i64 n.x.asked) ∧ wx.cell? ⟨bW, oW + H * 7 + 6, none⟩ = some (.int .i64 n.x.came) ∧ wx.cell? ⟨bN, oN + K * 7, none⟩ = some (S n.x.key) ∧ wx.cell? ⟨bN, oN + K * 7 + 1, none⟩ = some (vpN) ∧ wx.cell? ⟨bN, oN + K * 7 + 2, none⟩ = some (.int .i64 n.x.st) ∧ wx.cell? ⟨bN, oN + K * 7 + 3, none⟩ = some (vfN) ∧ wx.cell? ⟨bN, oN + K * 7 + 4, none⟩ = some (S n.x.body) ∧ wx.cell? ⟨bN, oN + K * 7 + 5, none⟩ = some (.int .i64 n.x.asked) ∧ wx.cell? ⟨bN, oN + K * 7 + 6, none⟩ = some (.int .i64 n.x.came))
                      (first | go_keep)
                      ((go_at_call 15; (with_reducible refine hSm.mono ?_); rintro e w12 ⟨rfl, hb12⟩; replace hb12 := Bl.undrew hb12; replace q0 := ((bcell hb12).1 bW (oW + H * 7) (Nat.lt_of_lt_of_le hbW hb11.size)).trans q0; replace q1 := ((bcell hb12).1 bW (oW + H * 7 + 1) (Nat.lt_of_lt_of_le hbW hb11.size)).trans q1; replace q2 := ((bcell hb12).1 bW (oW + H * 7 + 2) (Nat.lt_of_lt_of_le hbW hb11.size)).trans q2; replace q3 := ((bcell hb12).1 bW (oW + H * 7 + 3) (Nat.lt_of_lt_of_le hbW hb11.size)).trans q3; replace q4 := ((bcell hb12).1 bW (oW + H * 7 + 4) (Nat.lt_of_lt_of_le hbW hb11.size)).trans q4; replace q5 := ((bcell hb12).1 bW (oW + H * 7 + 5) (Nat.lt_of_lt_of_le hbW hb11.size)).trans q5; replace q6 := ((bcell hb12).1 bW (oW + H * 7 + 6) (Nat.lt_of_lt_of_le hbW hb11.size)).trans q6; replace r0 := ((bcell hb12).1 bN (oN + K * 7) hbNQ).trans r0; replace r1 := ((bcell hb12).1 bN (oN + K * 7 + 1) hbNQ).trans r1; replace r2 := ((bcell hb12).1 bN (oN + K * 7 + 2) hbNQ).trans r2; replace r3 := ((bcell hb12).1 bN (oN + K * 7 + 3) hbNQ).trans r3; replace r4 := ((bcell hb12).1 bN (oN + K * 7 + 4) hbNQ).trans r4; replace r5 := ((bcell hb12).1 bN (oN + K * 7 + 5) hbNQ).trans r5; replace r6 := ((bcell hb12).1 bN (oN + K * 7 + 6) hbNQ).trans r6))
                    all_goals
                      go_wp2_with fail
                      go_roundw
                      case rel => exact ⟨H, K, by go_num, by go_num, by omega, by omega, hE2, hbi.trans (hb12.mono hbi.size)⟩
                      case measure => (first | (simp [intOf]; done) | (simp [intOf]; omega))
          · have hPut := Put_long R R (R + 2) R (R + 1) (M : Int) last l ⟨xkey, .slice axp xlp.length kxp, xst, .slice axf xlf.length kxf, xbody, xa, xc⟩ xlp xlf wy hsy (fun w' hb => (hxp.below (hpst w' hb)).mono (hpz w' hb)) (fun w' hb => (hxf.below (hpst w' hb)).mono (hpz w' hb)) (by show xkey.length ≤ _; omega) (by show xbody.length ≤ _; omega) (by omega) (by omega) (by omega) (by show (M : Int) < ((64 + xkey.length + xbody.length + fsum xlf + fsum xlp : Nat) : Int); omega)
            go_wp2_with fail
            refine hPut.mono ?_
            rintro e w7 ⟨rfl, hs7, hb7⟩
            obtain ⟨D, eD⟩ : ∃ D, D = l.filter (fun n => !alikeP xkey xlp n) := ⟨_, rfl⟩
            have hends : ∃ E, l.filter (fun n => !alikeP xkey xlp n) = E ++ D := ⟨[], by rw [eD]; rfl⟩
            rw [← eD] at hs7
            have hids7 : ∀ n ∈ D, n.x.id ≤ last := by
              rw [eD]
              exact fun n hn => hids n (List.mem_filter.1 hn).1
            clear eD
            have hX7 := hXy.but hb7 hXo
            have hW7 := hW.but hsy hb7
            have hRY7 : Below R wo w7 := hpst w7 hb7
            have hll : l.length ≤ 16384 := hsy.length_le
            have hR7 : R < w7.heap.size := hs7.rlt
            have hcost := Cost_any ⟨xkey, .slice axp xlp.length kxp, xst, .slice axf xlf.length kxf, xbody, xa, xc⟩ xlp xlf w7 ((hxp.below hRY7).mono (Nat.le_of_lt hR7)) ((hxf.below hRY7).mono (Nat.le_of_lt hR7)) (by show xkey.length ≤ _; omega) (by show xbody.length ≤ _; omega) (by omega) (by omega)
            have hcf : costF ⟨xkey, .slice axp xlp.length kxp, xst, .slice axf xlf.length kxf, xbody, xa, xc⟩ xlp xlf = 64 + xkey.length + xbody.length + fsum xlf + fsum xlp := rfl
            rw [hcf] at hcost
            clear hcf
            obtain ⟨cx, ecx⟩ : ∃ cx, cx = 64 + xkey.length + xbody.length + fsum xlf + fsum xlp := ⟨_, rfl⟩
            rw [← ecx] at hcost hc
            clear ecx x0 x1 x2 x3 x4 x5 x6 hPut hpst hpz hXy hsy hW hRY hRy hXo hb7
            (have x0 : w7.cell? ⟨X, 0, none⟩ = some (S xkey) := hX7.cell 0; have x1 : w7.cell? ⟨X, 1, none⟩ = some (.slice axp xlp.length kxp) := hX7.cell 1; have x2 : w7.cell? ⟨X, 2, none⟩ = some (.int .i64 xst) := hX7.cell 2; have x3 : w7.cell? ⟨X, 3, none⟩ = some (.slice axf xlf.length kxf) := hX7.cell 3; have x4 : w7.cell? ⟨X, 4, none⟩ = some (S xbody) := hX7.cell 4; have x5 : w7.cell? ⟨X, 5, none⟩ = some (.int .i64 xa) := hX7.cell 5; have x6 : w7.cell? ⟨X, 6, none⟩ = some (.int .i64 xc) := hX7.cell 6)
            go_wp2_with fail
            refine hcost.mono ?_
            rintro e w8 ⟨rfl, hb8⟩
            have hX8 := hX7.on hb8
            have hW8 := hW7.below hb8
            have hs8 := hs7.below hb8
            have hRY8 : Below R wo w8 := hRY7.trans (hb8.mono (Nat.le_of_lt hR7))
            have hR8 : R < w8.heap.size := hs8.rlt
            obtain ⟨cs, ecs⟩ : ∃ cs, cs = costs ((D).map Nd.x) := ⟨_, rfl⟩
            have hby8 : w8.cell? ⟨R + 2, 1, none⟩ = some (.int .i64 (cs : Nat)) := by rw [ecs]; exact hs8.blk.cell 1
            have hcs : (cs : Int) ≤ (M : Int) := by rw [ecs]; exact hs8.room
            have hBt := Bytes_any (R + 2) (cs : Nat) w8 hby8
            have u1 : decide ((M : Int) < (cx : Int)) = true := by simp; omega
            have u2 : decide (M < cx) = true := by simp; omega
            have u3 : decide ((M : Int) < (cs : Int)) = false := by simp; omega
            have u4 : decide (M < cs) = false := by simp; omega
            clear ecs x0 x1 x2 x3 x4 x5 x6 hX7 hW7 hs7 hRY7 hR7 hb8 hcost
            go_wp2_with fail
            refine hBt.mono ?_
            rintro e w8b ⟨rfl, e8⟩
            rw [e8]
            clear e8 w8b
            have hAll := ShAll_any R R (R + 2) R (R + 1) (M : Int) (last) (D) w8 hs8
            go_wp2_with fail
            refine hAll.mono ?_
            rintro e w9 ⟨vN, evsN, rfl, hN, hb9⟩
            obtain ⟨aN, cN, hvN⟩ := row_form hN.row
            subst hvN
            have hX9 := hX8.on hb9
            have hW9 := hW8.below hb9
            have hs9 := hs8.below hb9
            have hRY9 : Below R wo w9 := hRY8.trans (hb9.mono (Nat.le_of_lt hR8))
            have hR9 : R < w9.heap.size := hs9.rlt
            have hlN := hN.len
            have hlW := hW9.len
            have hlc := hs9.length_le
            clear u1 u2 u3 u4 hX8 hW8 hs8 hRY8 hR8 hb9 hAll hBt hby8 hcs
            rw [hlN]
            have HLN := Lib.hid hlN
            clear hlN
            obtain ⟨w10, e10⟩ : ∃ w10 : World, w10 = w9.drew := ⟨_, rfl⟩
            have hb10 : Below w9.heap.size w9 w10 := by rw [e10]; exact (Below.refl _ _).drew
            have hX10 := hX9.on hb10
            go_wp2_with fail
            refine wp_region_held_drew (S := (fun wx => wx.cell? ⟨X, 0, none⟩ = some (S xkey))) (by kernel_rfl) (hX9.cell 0) (fun hHeld => ?_)
            refine wpAnyH_take (i := 0) (v := ?_) (by rfl) (by kernel_rfl) (by kernel_rfl) (by kernel_rfl) (by exact fun _ _ _ h => h) (Or.inl ⟨by rfl, ?_⟩) hHeld ?_
            rotate_left
            · (intro w hSw; (try dsimp only at hSw); go_simp; try with_reducible rfl)
            simp only [Act.put, List.getElem_toArray, List.getElem_cons_succ, List.getElem_cons_zero, List.setIfInBounds_toArray, List.set_cons_zero, List.set_cons_succ]
            refine wpAnyH_take (i := 1) (v := ?_) (by rfl) (by kernel_rfl) (by kernel_rfl) (by kernel_rfl) (by exact fun _ _ _ h => h) (Or.inl ⟨by rfl, ?_⟩) hHeld ?_
            rotate_left
            · (intro w hSw; (try dsimp only at hSw); go_simp; try with_reducible rfl)
            simp only [Act.put, List.getElem_toArray, List.getElem_cons_succ, List.getElem_cons_zero, List.setIfInBounds_toArray, List.set_cons_zero, List.set_cons_succ]
            refine wpAnyH_take (i := 2) (v := ?_) (by rfl) (by kernel_rfl) (by kernel_rfl) (by kernel_rfl) (by exact fun _ _ _ h => h) (Or.inl ⟨by rfl, ?_⟩) hHeld ?_
            rotate_left
            · (intro w hSw; (try dsimp only at hSw); go_simp; try with_reducible rfl)
            simp only [Act.put, List.getElem_toArray, List.getElem_cons_succ, List.getElem_cons_zero, List.setIfInBounds_toArray, List.set_cons_zero, List.set_cons_succ]
            refine wpAnyH_take (i := 3) (v := undef) (by rfl) (by kernel_rfl) (by kernel_rfl) (by kernel_rfl) (by exact fun _ _ _ h => h) (Or.inr ⟨by rfl, rfl⟩) hHeld ?_
            simp only [Act.put, List.getElem_toArray, List.getElem_cons_succ, List.getElem_cons_zero, List.setIfInBounds_toArray, List.set_cons_zero, List.set_cons_succ]
            refine wpAnyH_take (i := 4) (v := undef) (by rfl) (by kernel_rfl) (by kernel_rfl) (by kernel_rfl) (by exact fun _ _ _ h => h) (Or.inr ⟨by rfl, rfl⟩) hHeld ?_
            simp only [Act.put, List.getElem_toArray, List.getElem_cons_succ, List.getElem_cons_zero, List.setIfInBounds_toArray, List.set_cons_zero, List.set_cons_succ]
            refine wpAnyH_take (i := 5) (v := undef) (by rfl) (by kernel_rfl) (by kernel_rfl) (by kernel_rfl) (by exact fun _ _ _ h => h) (Or.inr ⟨by rfl, rfl⟩) hHeld ?_
            simp only [Act.put, List.getElem_toArray, List.getElem_cons_succ, List.getElem_cons_zero, List.setIfInBounds_toArray, List.set_cons_zero, List.set_cons_succ]
            refine wpAnyH_take (i := 6) (v := undef) (by rfl) (by kernel_rfl) (by kernel_rfl) (by kernel_rfl) (by exact fun _ _ _ h => h) (Or.inr ⟨by rfl, rfl⟩) hHeld ?_
            simp only [Act.put, List.getElem_toArray, List.getElem_cons_succ, List.getElem_cons_zero, List.setIfInBounds_toArray, List.set_cons_zero, List.set_cons_succ]
            refine wpAnyH_take (i := 7) (v := undef) (by rfl) (by kernel_rfl) (by kernel_rfl) (by kernel_rfl) (by exact fun _ _ _ h => h) (Or.inr ⟨by rfl, rfl⟩) hHeld ?_
            simp only [Act.put, List.getElem_toArray, List.getElem_cons_succ, List.getElem_cons_zero, List.setIfInBounds_toArray, List.set_cons_zero, List.set_cons_succ]
            refine wpAnyH_take (i := 8) (v := undef) (by rfl) (by kernel_rfl) (by kernel_rfl) (by kernel_rfl) (by exact fun _ _ _ h => h) (Or.inr ⟨by rfl, rfl⟩) hHeld ?_
            simp only [Act.put, List.getElem_toArray, List.getElem_cons_succ, List.getElem_cons_zero, List.setIfInBounds_toArray, List.set_cons_zero, List.set_cons_succ]
            refine wpAnyH_take (i := 9) (v := undef) (by rfl) (by kernel_rfl) (by kernel_rfl) (by kernel_rfl) (by exact fun _ _ _ h => h) (Or.inr ⟨by rfl, rfl⟩) hHeld ?_
            simp only [Act.put, List.getElem_toArray, List.getElem_cons_succ, List.getElem_cons_zero, List.setIfInBounds_toArray, List.set_cons_zero, List.set_cons_succ]
            refine wpAnyH_take (i := 10) (v := undef) (by rfl) (by kernel_rfl) (by kernel_rfl) (by kernel_rfl) (by exact fun _ _ _ h => h) (Or.inr ⟨by rfl, rfl⟩) hHeld ?_
            simp only [Act.put, List.getElem_toArray, List.getElem_cons_succ, List.getElem_cons_zero, List.setIfInBounds_toArray, List.set_cons_zero, List.set_cons_succ]
            refine wpAnyH_take (i := 11) (v := undef) (by rfl) (by kernel_rfl) (by kernel_rfl) (by kernel_rfl) (by exact fun _ _ _ h => h) (Or.inr ⟨by rfl, rfl⟩) hHeld ?_
            simp only [Act.put, List.getElem_toArray, List.getElem_cons_succ, List.getElem_cons_zero, List.setIfInBounds_toArray, List.set_cons_zero, List.set_cons_succ]
            refine wpAnyH_take (i := 12) (v := undef) (by rfl) (by kernel_rfl) (by kernel_rfl) (by kernel_rfl) (by exact fun _ _ _ h => h) (Or.inr ⟨by rfl, rfl⟩) hHeld ?_
            simp only [Act.put, List.getElem_toArray, List.getElem_cons_succ, List.getElem_cons_zero, List.setIfInBounds_toArray, List.set_cons_zero, List.set_cons_succ]
            refine wpAnyH_take (i := 13) (v := undef) (by rfl) (by kernel_rfl) (by kernel_rfl) (by kernel_rfl) (by exact fun _ _ _ h => h) (Or.inr ⟨by rfl, rfl⟩) hHeld ?_
            simp only [Act.put, List.getElem_toArray, List.getElem_cons_succ, List.getElem_cons_zero, List.setIfInBounds_toArray, List.set_cons_zero, List.set_cons_succ]
            refine wpAnyH_take (i := 14) (v := undef) (by rfl) (by kernel_rfl) (by kernel_rfl) (by kernel_rfl) (by exact fun _ _ _ h => h) (Or.inr ⟨by rfl, rfl⟩) hHeld ?_
            simp only [Act.put, List.getElem_toArray, List.getElem_cons_succ, List.getElem_cons_zero, List.setIfInBounds_toArray, List.set_cons_zero, List.set_cons_succ]
            refine wpAnyH_take (i := 15) (v := undef) (by rfl) (by kernel_rfl) (by kernel_rfl) (by kernel_rfl) (by exact fun _ _ _ h => h) (Or.inr ⟨by rfl, rfl⟩) hHeld ?_
            simp only [Act.put, List.getElem_toArray, List.getElem_cons_succ, List.getElem_cons_zero, List.setIfInBounds_toArray, List.set_cons_zero, List.set_cons_succ]
            refine wpAnyH_take (i := 16) (v := undef) (by rfl) (by kernel_rfl) (by kernel_rfl) (by kernel_rfl) (by exact fun _ _ _ h => h) (Or.inr ⟨by rfl, rfl⟩) hHeld ?_
            simp only [Act.put, List.getElem_toArray, List.getElem_cons_succ, List.getElem_cons_zero, List.setIfInBounds_toArray, List.set_cons_zero, List.set_cons_succ]
            refine wpAnyH_take (i := 17) (v := ?_) (by rfl) (by kernel_rfl) (by kernel_rfl) (by kernel_rfl) (by exact fun _ _ _ h => h) (Or.inl ⟨by rfl, ?_⟩) hHeld ?_
            rotate_left
            · (intro w hSw; (try dsimp only at hSw); go_simp; try with_reducible rfl)
            simp only [Act.put, List.getElem_toArray, List.getElem_cons_succ, List.getElem_cons_zero, List.setIfInBounds_toArray, List.set_cons_zero, List.set_cons_succ]
            try simp only [Act.put, List.getElem_toArray, List.getElem_cons_succ, List.getElem_cons_zero, List.setIfInBounds_toArray, List.set_cons_zero, List.set_cons_succ]
            refine wpAnyH_done (by kernel_rfl) ?_ _
            rw [← e10]
            clear e10
            have hs10 := hs9.below hb10
            have hW10 := hW9.below hb10
            have hN10 := hN.below hb10
            have hbO : Below R w4 w10 := (hbr.trans hRY9).trans (hb10.mono (Nat.le_of_lt hR9))
            have hwO : Below B w w10 := hwr.trans ((hRY9.trans (hb10.mono (Nat.le_of_lt hR9))).mono hB3)
            have hRO : Below R wo w10 := hRY9.trans (hb10.mono (Nat.le_of_lt hR9))
            have hR10 : R < w10.heap.size := hs10.rlt
            have HLW := Lib.hid hlW
            have hE0 := Ends.start hends
            clear hlW hends hs9 hW9 hN hX9 hb10 hR9 hRY9
            go_wp2_with fail
            go_loopw [16, 17] (fun k h wr => ∃ H K : Nat, k = .int .i64 ((K : Int) - 1) ∧ h = .int .i64 ((H : Int) - 1) ∧ H ≤ l.length ∧ K ≤ D.length ∧ Ends (alikeP xkey xlp) l D H K ∧ Below w10.heap.size w10 wr) (fun _ h _ => (intOf h + 1).toNat)
            case atStart => exact ⟨l.length, D.length, by go_num, by go_num, Nat.le_refl _, Nat.le_refl _, hE0, Below.refl _ _⟩
            case round =>
              obtain ⟨H, K, rfl, rfl, hH, hK, hE, hbi⟩ := hrel
              clear hE0
              cases H with
              | zero =>
                obtain rfl := hE.over hK
                rw [show (((0 : Nat) : Int) - 1) = -1 from rfl]
                go_wp2_with fail
                go_roundw
                case rel => exact ⟨j + 1, last, D, by go_num, by omega, hs10.below hbi, hids7, by omega, by omega, hbO.trans (hbi.mono (Nat.le_of_lt hR10))⟩
                case measure => (first | (simp [intOf]; done) | (simp [intOf]; omega))
              | succ H =>
                rw [show (((H + 1 : Nat) : Int) - 1) = (H : Int) from by omega]
                cases K with
                | zero =>
                  rw [show (((0 : Nat) : Int) - 1) = -1 from rfl]
                  go_wp2_with fail
                  go_roundw
                  case rel => exact ⟨j + 1, last, D, by go_num, by omega, hs10.below hbi, hids7, by omega, by omega, hbO.trans (hbi.mono (Nat.le_of_lt hR10))⟩
                  case measure => (first | (simp [intOf]; done) | (simp [intOf]; omega))
                | succ K =>
                  rw [show (((K + 1 : Nat) : Int) - 1) = (K : Int) from by omega]
                  have hXr := hX10.on hbi
                  have hWr := hW10.below hbi
                  have hWl : evsW.length = l.length := HLW.out
                  have hHl : H < l.length := by omega
                  obtain ⟨n, en⟩ : ∃ n, n = l[H]'hHl := ⟨_, rfl⟩
                  obtain ⟨q, eq⟩ : ∃ q, q = evsW[H]'(by omega) := ⟨_, rfl⟩
                  have hqx : q.x = n.x := by rw [eq, en]; exact hWr.get H (by omega) (by omega)
                  obtain ⟨bW, oW, rfl, hbW, g0, g1, g2, g3, g4, g5, g6⟩ := ev_at_k (Rd.own hWr.row) H (by omega)
                  have hel := hWr.lists q (by rw [eq]; exact List.getElem_mem _)
                  rw [← eq] at g0 g1 g2 g3 g4 g5 g6
                  clear eq hWl
                  obtain ⟨vpW, vfW, xW⟩ := q
                  simp only at hqx
                  subst hqx
                  replace g0 : wr.cell? ⟨bW, oW + H * 7, none⟩ = some (S n.x.key) := g0
                  replace g1 : wr.cell? ⟨bW, oW + H * 7 + 1, none⟩ = some vpW := g1
                  replace g2 : wr.cell? ⟨bW, oW + H * 7 + 2, none⟩ = some (.int .i64 n.x.st) := g2
                  replace g3 : wr.cell? ⟨bW, oW + H * 7 + 3, none⟩ = some vfW := g3
                  replace g4 : wr.cell? ⟨bW, oW + H * 7 + 4, none⟩ = some (S n.x.body) := g4
                  replace g5 : wr.cell? ⟨bW, oW + H * 7 + 5, none⟩ = some (.int .i64 n.x.asked) := g5
                  replace g6 : wr.cell? ⟨bW, oW + H * 7 + 6, none⟩ = some (.int .i64 n.x.came) := g6
                  have fp : Fs wr.heap.size wr vpW n.x.lp := Fs.own hel.1
                  have ff : Fs wr.heap.size wr vfW n.x.lf := Fs.own hel.2
                  have hRr : R < wr.heap.size := Nat.lt_of_lt_of_le hR10 hbi.size
                  have hRI : Below R wo wr := hRO.trans (hbi.mono (Nat.le_of_lt hR10))
                  have x0 : wr.cell? ⟨X, 0, none⟩ = some (S xkey) := hXr.cell 0
                  have x1 : wr.cell? ⟨X, 1, none⟩ = some (.slice axp xlp.length kxp) := hXr.cell 1
                  have HEN := Lib.hid en
                  clear en hel hWr
                  by_cases hk : n.x.key = xkey
                  · have hr : (n.x.key == xkey) = true := by simp [hk]
                    have hPS := PSame_any n.x.lp xlp vpW (.slice axp xlp.length kxp) wr.drew fp.drew ((hxp.below hRI.drew).mono (Nat.le_of_lt hRr))
                    obtain ⟨c, ec⟩ : ∃ c, c = (n.x.lp == xlp) := ⟨_, rfl⟩
                    rw [← ec] at hPS
                    have hal : alikeP xkey xlp n = c := by
                      unfold alikeP
                      rw [hr, ec]
                      rfl
                    have HEC := Lib.hid hal
                    clear hk ec hal
                    cases c with
                    | true =>
                      go_wp2_with fail
                      refine wp_region_held_drew (S := (fun wx => wx.cell? ⟨bW, oW + H * 7, none⟩ = some (S n.x.key) ∧ wx.cell? ⟨bW, oW + H * 7 + 1, none⟩ = some vpW ∧ wx.cell? ⟨X, 0, none⟩ = some (S xkey) ∧ wx.cell? ⟨X, 1, none⟩ = some (.slice axp xlp.length kxp))) (by kernel_rfl) ⟨g0, g1, x0, x1⟩ (fun hHeld => ?_)
                      refine wpAnyH_take (i := 0) (v := ?_) (by rfl) (by kernel_rfl) (by kernel_rfl) (by kernel_rfl) (by exact fun _ _ _ h => h) (Or.inl ⟨by rfl, ?_⟩) hHeld ?_
                      rotate_left
                      · (intro w hSw; (try dsimp only at hSw); go_simp; try with_reducible rfl)
                      simp only [Act.put, List.getElem_toArray, List.getElem_cons_succ, List.getElem_cons_zero, List.setIfInBounds_toArray, List.set_cons_zero, List.set_cons_succ]
                      refine wpAnyH_take (i := 1) (v := ?_) (by rfl) (by kernel_rfl) (by kernel_rfl) (by kernel_rfl) (by exact fun _ _ _ h => h) (Or.inl ⟨by rfl, ?_⟩) hHeld ?_
                      rotate_left
                      · (intro w hSw; (try dsimp only at hSw); go_simp; try with_reducible rfl)
                      simp only [Act.put, List.getElem_toArray, List.getElem_cons_succ, List.getElem_cons_zero, List.setIfInBounds_toArray, List.set_cons_zero, List.set_cons_succ]
                      refine wpAnyH_take (i := 2) (v := ?_) (by rfl) (by kernel_rfl) (by kernel_rfl) (by kernel_rfl) (by exact fun _ _ _ h => h) (Or.inl ⟨by rfl, ?_⟩) hHeld ?_
                      rotate_left
                      · (intro w hSw; (try dsimp only at hSw); go_simp; try with_reducible rfl)
                      simp only [Act.put, List.getElem_toArray, List.getElem_cons_succ, List.getElem_cons_zero, List.setIfInBounds_toArray, List.set_cons_zero, List.set_cons_succ]
                      refine wpAnyH_take (i := 3) (v := ?_) (by rfl) (by kernel_rfl) (by kernel_rfl) (by kernel_rfl) (by exact fun _ _ _ h => h) (Or.inl ⟨by rfl, ?_⟩) hHeld ?_
                      rotate_left
                      · (intro w hSw; (try dsimp only at hSw); go_simp; try with_reducible rfl)
                      simp only [Act.put, List.getElem_toArray, List.getElem_cons_succ, List.getElem_cons_zero, List.setIfInBounds_toArray, List.set_cons_zero, List.set_cons_succ]
                      refine wpAnyH_take (i := 4) (v := ?_) (by rfl) (by kernel_rfl) (by kernel_rfl) (by kernel_rfl) (by exact fun _ _ _ h => h) (Or.inl ⟨by rfl, ?_⟩) hHeld ?_
                      rotate_left
                      · (intro w hSw; (try dsimp only at hSw); go_simp; try with_reducible rfl)
                      simp only [Act.put, List.getElem_toArray, List.getElem_cons_succ, List.getElem_cons_zero, List.setIfInBounds_toArray, List.set_cons_zero, List.set_cons_succ]
                      refine wpAnyH_take (i := 5) (v := ?_) (by rfl) (by kernel_rfl) (by kernel_rfl) (by kernel_rfl) (by exact fun _ _ _ h => h) (Or.inl ⟨by rfl, ?_⟩) hHeld ?_
                      rotate_left
                      · (intro w hSw; (try dsimp only at hSw); go_simp; try with_reducible rfl)
                      simp only [Act.put, List.getElem_toArray, List.getElem_cons_succ, List.getElem_cons_zero, List.setIfInBounds_toArray, List.set_cons_zero, List.set_cons_succ]
                      refine wpAnyH_take (i := 6) (v := ?_) (by rfl) (by kernel_rfl) (by kernel_rfl) (by kernel_rfl) (by exact fun _ _ _ h => h) (Or.inl ⟨by rfl, ?_⟩) hHeld ?_
                      rotate_left
                      · (intro w hSw; (try dsimp only at hSw); go_simp; try with_reducible rfl)
                      simp only [Act.put, List.getElem_toArray, List.getElem_cons_succ, List.getElem_cons_zero, List.setIfInBounds_toArray, List.set_cons_zero, List.set_cons_succ]
                      refine wpAnyH_take (i := 7) (v := ?_) (by rfl) (by kernel_rfl) (by kernel_rfl) (by kernel_rfl) (by exact fun _ _ _ h => h) (Or.inl ⟨by rfl, ?_⟩) hHeld ?_
                      rotate_left
                      · (intro w hSw; (try dsimp only at hSw); go_simp; try with_reducible rfl)
                      simp only [Act.put, List.getElem_toArray, List.getElem_cons_succ, List.getElem_cons_zero, List.setIfInBounds_toArray, List.set_cons_zero, List.set_cons_succ]
                      refine wpAnyH_take (i := 8) (v := ?_) (by rfl) (by kernel_rfl) (by kernel_rfl) (by kernel_rfl) (by exact fun _ _ _ h => h) (Or.inl ⟨by rfl, ?_⟩) hHeld ?_
                      rotate_left
                      · (intro w hSw; (try dsimp only at hSw); go_simp; try with_reducible rfl)
                      simp only [Act.put, List.getElem_toArray, List.getElem_cons_succ, List.getElem_cons_zero, List.setIfInBounds_toArray, List.set_cons_zero, List.set_cons_succ]
                      refine wpAnyH_take (i := 9) (v := ?_) (by rfl) (by kernel_rfl) (by kernel_rfl) (by kernel_rfl) (by exact fun _ _ _ h => h) (Or.inl ⟨by rfl, ?_⟩) hHeld ?_
                      rotate_left
                      · (intro w hSw; (try dsimp only at hSw); go_simp; try with_reducible rfl)
                      simp only [Act.put, List.getElem_toArray, List.getElem_cons_succ, List.getElem_cons_zero, List.setIfInBounds_toArray, List.set_cons_zero, List.set_cons_succ]
                      refine wpAnyH_take (i := 10) (v := ?_) (by rfl) (by kernel_rfl) (by kernel_rfl) (by kernel_rfl) (by exact fun _ _ _ h => h) (Or.inl ⟨by rfl, ?_⟩) hHeld ?_
                      rotate_left
                      · (intro w hSw; (try dsimp only at hSw); go_simp; try with_reducible rfl)
                      simp only [Act.put, List.getElem_toArray, List.getElem_cons_succ, List.getElem_cons_zero, List.setIfInBounds_toArray, List.set_cons_zero, List.set_cons_succ]
                      refine wpAnyH_take (i := 11) (v := ?_) (by rfl) (by kernel_rfl) (by kernel_rfl) (by kernel_rfl) (by exact fun _ _ _ h => h) (Or.inl ⟨by rfl, ?_⟩) hHeld ?_
                      rotate_left
                      · (intro w hSw; (try dsimp only at hSw); go_simp; try with_reducible rfl)
                      simp only [Act.put, List.getElem_toArray, List.getElem_cons_succ, List.getElem_cons_zero, List.setIfInBounds_toArray, List.set_cons_zero, List.set_cons_succ]
                      refine wpAnyH_take (i := 12) (v := ?_) (by rfl) (by kernel_rfl) (by kernel_rfl) (by kernel_rfl) (by exact fun _ _ _ h => h) (Or.inl ⟨by rfl, ?_⟩) hHeld ?_
                      rotate_left
                      · (intro w hSw; (try dsimp only at hSw); go_simp; try with_reducible rfl)
                      simp only [Act.put, List.getElem_toArray, List.getElem_cons_succ, List.getElem_cons_zero, List.setIfInBounds_toArray, List.set_cons_zero, List.set_cons_succ]
                      refine wpAnyH_take (i := 13) (v := ?_) (by rfl) (by kernel_rfl) (by kernel_rfl) (by kernel_rfl) (by exact fun _ _ _ h => h) (Or.inl ⟨by rfl, ?_⟩) hHeld ?_
                      rotate_left
                      · (intro w hSw; (try dsimp only at hSw); go_simp; try with_reducible rfl)
                      simp only [Act.put, List.getElem_toArray, List.getElem_cons_succ, List.getElem_cons_zero, List.setIfInBounds_toArray, List.set_cons_zero, List.set_cons_succ]
                      refine wpAnyH_take (i := 14) (v := ?_) (by rfl) (by kernel_rfl) (by kernel_rfl) (by kernel_rfl) (by exact fun _ _ _ h => h) (Or.inl ⟨by rfl, ?_⟩) hHeld ?_
                      rotate_left
                      · (intro w hSw; (try dsimp only at hSw); go_simp; try with_reducible rfl)
                      simp only [Act.put, List.getElem_toArray, List.getElem_cons_succ, List.getElem_cons_zero, List.setIfInBounds_toArray, List.set_cons_zero, List.set_cons_succ]
                      refine wpAnyH_take (i := 15) (v := ?_) (by rfl) (by kernel_rfl) (by kernel_rfl) (by kernel_rfl) (by exact fun _ _ _ h => h) (Or.inl ⟨by rfl, ?_⟩) hHeld ?_
                      rotate_left
                      · (intro w hSw; (try dsimp only at hSw); go_simp; try with_reducible rfl)
                      simp only [Act.put, List.getElem_toArray, List.getElem_cons_succ, List.getElem_cons_zero, List.setIfInBounds_toArray, List.set_cons_zero, List.set_cons_succ]
                      refine wpAnyH_ready (rs := [16]) (by kernel_rfl) (by simp) ?_
                      refine AllReadyH.cons (by rfl) (fun K hK => ?_) AllReadyH.nil
                      go_simp
                      (with_reducible refine hPS.mono ?_); rintro e w11 ⟨rfl, hb11⟩; replace hb11 := Bl.undrew hb11; have hXe := hXr.on hb11; replace x0 : w11.cell? ⟨X, 0, none⟩ = some (S xkey) := hXe.cell 0; replace x1 : w11.cell? ⟨X, 1, none⟩ = some (.slice axp xlp.length kxp) := hXe.cell 1; replace g0 := ((bcell hb11).1 bW (oW + H * 7) hbW).trans g0; replace g1 := ((bcell hb11).1 bW (oW + H * 7 + 1) hbW).trans g1
                      refine hK.out _ _ ⟨g0, g1, x0, x1⟩ (fun hHeld => ?_)
                      clear hK K
                      try simp only [Act.put, List.getElem_toArray, List.getElem_cons_succ, List.getElem_cons_zero, List.setIfInBounds_toArray, List.set_cons_zero, List.set_cons_succ]
                      refine wpAnyH_take (i := 17) (v := ?_) (by rfl) (by kernel_rfl) (by kernel_rfl) (by kernel_rfl) (by exact fun _ _ _ h => h) (Or.inl ⟨by rfl, ?_⟩) hHeld ?_
                      rotate_left
                      · (intro w hSw; (try dsimp only at hSw); go_simp; try with_reducible rfl)
                      simp only [Act.put, List.getElem_toArray, List.getElem_cons_succ, List.getElem_cons_zero, List.setIfInBounds_toArray, List.set_cons_zero, List.set_cons_succ]
                      try simp only [Act.put, List.getElem_toArray, List.getElem_cons_succ, List.getElem_cons_zero, List.setIfInBounds_toArray, List.set_cons_zero, List.set_cons_succ]
                      refine wpAnyH_done (by kernel_rfl) ?_ _
                      go_wp2_with fail
                      go_roundw
                      case rel => exact ⟨H, K + 1, by go_num, by go_num, by omega, hK, hE.skip (by omega) (by rw [← HEN.out]; exact HEC.out), hbi.trans (hb11.mono hbi.size)⟩
                      case measure => (first | (simp [intOf]; done) | (simp [intOf]; omega))
                    | false =>
                      go_wp2_with fail
                      refine wp_region_held_drew (S := (fun wx => wx.cell? ⟨bW, oW + H * 7, none⟩ = some (S n.x.key) ∧ wx.cell? ⟨bW, oW + H * 7 + 1, none⟩ = some vpW ∧ wx.cell? ⟨X, 0, none⟩ = some (S xkey) ∧ wx.cell? ⟨X, 1, none⟩ = some (.slice axp xlp.length kxp))) (by kernel_rfl) ⟨g0, g1, x0, x1⟩ (fun hHeld => ?_)
                      refine wpAnyH_take (i := 0) (v := ?_) (by rfl) (by kernel_rfl) (by kernel_rfl) (by kernel_rfl) (by exact fun _ _ _ h => h) (Or.inl ⟨by rfl, ?_⟩) hHeld ?_
                      rotate_left
                      · (intro w hSw; (try dsimp only at hSw); go_simp; try with_reducible rfl)
                      simp only [Act.put, List.getElem_toArray, List.getElem_cons_succ, List.getElem_cons_zero, List.setIfInBounds_toArray, List.set_cons_zero, List.set_cons_succ]
                      refine wpAnyH_take (i := 1) (v := ?_) (by rfl) (by kernel_rfl) (by kernel_rfl) (by kernel_rfl) (by exact fun _ _ _ h => h) (Or.inl ⟨by rfl, ?_⟩) hHeld ?_
                      rotate_left
                      · (intro w hSw; (try dsimp only at hSw); go_simp; try with_reducible rfl)
                      simp only [Act.put, List.getElem_toArray, List.getElem_cons_succ, List.getElem_cons_zero, List.setIfInBounds_toArray, List.set_cons_zero, List.set_cons_succ]
                      refine wpAnyH_take (i := 2) (v := ?_) (by rfl) (by kernel_rfl) (by kernel_rfl) (by kernel_rfl) (by exact fun _ _ _ h => h) (Or.inl ⟨by rfl, ?_⟩) hHeld ?_
                      rotate_left
                      · (intro w hSw; (try dsimp only at hSw); go_simp; try with_reducible rfl)
                      simp only [Act.put, List.getElem_toArray, List.getElem_cons_succ, List.getElem_cons_zero, List.setIfInBounds_toArray, List.set_cons_zero, List.set_cons_succ]
                      refine wpAnyH_take (i := 3) (v := ?_) (by rfl) (by kernel_rfl) (by kernel_rfl) (by kernel_rfl) (by exact fun _ _ _ h => h) (Or.inl ⟨by rfl, ?_⟩) hHeld ?_
                      rotate_left
                      · (intro w hSw; (try dsimp only at hSw); go_simp; try with_reducible rfl)
                      simp only [Act.put, List.getElem_toArray, List.getElem_cons_succ, List.getElem_cons_zero, List.setIfInBounds_toArray, List.set_cons_zero, List.set_cons_succ]
                      refine wpAnyH_take (i := 4) (v := ?_) (by rfl) (by kernel_rfl) (by kernel_rfl) (by kernel_rfl) (by exact fun _ _ _ h => h) (Or.inl ⟨by rfl, ?_⟩) hHeld ?_
                      rotate_left
                      · (intro w hSw; (try dsimp only at hSw); go_simp; try with_reducible rfl)
                      simp only [Act.put, List.getElem_toArray, List.getElem_cons_succ, List.getElem_cons_zero, List.setIfInBounds_toArray, List.set_cons_zero, List.set_cons_succ]
                      refine wpAnyH_take (i := 5) (v := ?_) (by rfl) (by kernel_rfl) (by kernel_rfl) (by kernel_rfl) (by exact fun _ _ _ h => h) (Or.inl ⟨by rfl, ?_⟩) hHeld ?_
                      rotate_left
                      · (intro w hSw; (try dsimp only at hSw); go_simp; try with_reducible rfl)
                      simp only [Act.put, List.getElem_toArray, List.getElem_cons_succ, List.getElem_cons_zero, List.setIfInBounds_toArray, List.set_cons_zero, List.set_cons_succ]
                      refine wpAnyH_take (i := 6) (v := ?_) (by rfl) (by kernel_rfl) (by kernel_rfl) (by kernel_rfl) (by exact fun _ _ _ h => h) (Or.inl ⟨by rfl, ?_⟩) hHeld ?_
                      rotate_left
                      · (intro w hSw; (try dsimp only at hSw); go_simp; try with_reducible rfl)
                      simp only [Act.put, List.getElem_toArray, List.getElem_cons_succ, List.getElem_cons_zero, List.setIfInBounds_toArray, List.set_cons_zero, List.set_cons_succ]
                      refine wpAnyH_take (i := 7) (v := ?_) (by rfl) (by kernel_rfl) (by kernel_rfl) (by kernel_rfl) (by exact fun _ _ _ h => h) (Or.inl ⟨by rfl, ?_⟩) hHeld ?_
                      rotate_left
                      · (intro w hSw; (try dsimp only at hSw); go_simp; try with_reducible rfl)
                      simp only [Act.put, List.getElem_toArray, List.getElem_cons_succ, List.getElem_cons_zero, List.setIfInBounds_toArray, List.set_cons_zero, List.set_cons_succ]
                      refine wpAnyH_take (i := 8) (v := ?_) (by rfl) (by kernel_rfl) (by kernel_rfl) (by kernel_rfl) (by exact fun _ _ _ h => h) (Or.inl ⟨by rfl, ?_⟩) hHeld ?_
                      rotate_left
                      · (intro w hSw; (try dsimp only at hSw); go_simp; try with_reducible rfl)
                      simp only [Act.put, List.getElem_toArray, List.getElem_cons_succ, List.getElem_cons_zero, List.setIfInBounds_toArray, List.set_cons_zero, List.set_cons_succ]
                      refine wpAnyH_take (i := 9) (v := ?_) (by rfl) (by kernel_rfl) (by kernel_rfl) (by kernel_rfl) (by exact fun _ _ _ h => h) (Or.inl ⟨by rfl, ?_⟩) hHeld ?_
                      rotate_left
                      · (intro w hSw; (try dsimp only at hSw); go_simp; try with_reducible rfl)
                      simp only [Act.put, List.getElem_toArray, List.getElem_cons_succ, List.getElem_cons_zero, List.setIfInBounds_toArray, List.set_cons_zero, List.set_cons_succ]
                      refine wpAnyH_take (i := 10) (v := ?_) (by rfl) (by kernel_rfl) (by kernel_rfl) (by kernel_rfl) (by exact fun _ _ _ h => h) (Or.inl ⟨by rfl, ?_⟩) hHeld ?_
                      rotate_left
                      · (intro w hSw; (try dsimp only at hSw); go_simp; try with_reducible rfl)
                      simp only [Act.put, List.getElem_toArray, List.getElem_cons_succ, List.getElem_cons_zero, List.setIfInBounds_toArray, List.set_cons_zero, List.set_cons_succ]
                      refine wpAnyH_take (i := 11) (v := ?_) (by rfl) (by kernel_rfl) (by kernel_rfl) (by kernel_rfl) (by exact fun _ _ _ h => h) (Or.inl ⟨by rfl, ?_⟩) hHeld ?_
                      rotate_left
                      · (intro w hSw; (try dsimp only at hSw); go_simp; try with_reducible rfl)
                      simp only [Act.put, List.getElem_toArray, List.getElem_cons_succ, List.getElem_cons_zero, List.setIfInBounds_toArray, List.set_cons_zero, List.set_cons_succ]
                      refine wpAnyH_take (i := 12) (v := ?_) (by rfl) (by kernel_rfl) (by kernel_rfl) (by kernel_rfl) (by exact fun _ _ _ h => h) (Or.inl ⟨by rfl, ?_⟩) hHeld ?_
                      rotate_left
                      · (intro w hSw; (try dsimp only at hSw); go_simp; try with_reducible rfl)
                      simp only [Act.put, List.getElem_toArray, List.getElem_cons_succ, List.getElem_cons_zero, List.setIfInBounds_toArray, List.set_cons_zero, List.set_cons_succ]
                      refine wpAnyH_take (i := 13) (v := ?_) (by rfl) (by kernel_rfl) (by kernel_rfl) (by kernel_rfl) (by exact fun _ _ _ h => h) (Or.inl ⟨by rfl, ?_⟩) hHeld ?_
                      rotate_left
                      · (intro w hSw; (try dsimp only at hSw); go_simp; try with_reducible rfl)
                      simp only [Act.put, List.getElem_toArray, List.getElem_cons_succ, List.getElem_cons_zero, List.setIfInBounds_toArray, List.set_cons_zero, List.set_cons_succ]
                      refine wpAnyH_take (i := 14) (v := ?_) (by rfl) (by kernel_rfl) (by kernel_rfl) (by kernel_rfl) (by exact fun _ _ _ h => h) (Or.inl ⟨by rfl, ?_⟩) hHeld ?_
                      rotate_left
                      · (intro w hSw; (try dsimp only at hSw); go_simp; try with_reducible rfl)
                      simp only [Act.put, List.getElem_toArray, List.getElem_cons_succ, List.getElem_cons_zero, List.setIfInBounds_toArray, List.set_cons_zero, List.set_cons_succ]
                      refine wpAnyH_take (i := 15) (v := ?_) (by rfl) (by kernel_rfl) (by kernel_rfl) (by kernel_rfl) (by exact fun _ _ _ h => h) (Or.inl ⟨by rfl, ?_⟩) hHeld ?_
                      rotate_left
                      · (intro w hSw; (try dsimp only at hSw); go_simp; try with_reducible rfl)
                      simp only [Act.put, List.getElem_toArray, List.getElem_cons_succ, List.getElem_cons_zero, List.setIfInBounds_toArray, List.set_cons_zero, List.set_cons_succ]
                      refine wpAnyH_ready (rs := [16]) (by kernel_rfl) (by simp) ?_
                      refine AllReadyH.cons (by rfl) (fun K hK => ?_) AllReadyH.nil
                      go_simp
                      (with_reducible refine hPS.mono ?_); rintro e w11 ⟨rfl, hb11⟩; replace hb11 := Bl.undrew hb11; have hXe := hXr.on hb11; replace x0 : w11.cell? ⟨X, 0, none⟩ = some (S xkey) := hXe.cell 0; replace x1 : w11.cell? ⟨X, 1, none⟩ = some (.slice axp xlp.length kxp) := hXe.cell 1; replace g0 := ((bcell hb11).1 bW (oW + H * 7) hbW).trans g0; replace g1 := ((bcell hb11).1 bW (oW + H * 7 + 1) hbW).trans g1
                      refine hK.out _ _ ⟨g0, g1, x0, x1⟩ (fun hHeld => ?_)
                      clear hK K
                      try simp only [Act.put, List.getElem_toArray, List.getElem_cons_succ, List.getElem_cons_zero, List.setIfInBounds_toArray, List.set_cons_zero, List.set_cons_succ]
                      refine wpAnyH_take (i := 17) (v := ?_) (by rfl) (by kernel_rfl) (by kernel_rfl) (by kernel_rfl) (by exact fun _ _ _ h => h) (Or.inl ⟨by rfl, ?_⟩) hHeld ?_
                      rotate_left
                      · (intro w hSw; (try dsimp only at hSw); go_simp; try with_reducible rfl)
                      simp only [Act.put, List.getElem_toArray, List.getElem_cons_succ, List.getElem_cons_zero, List.setIfInBounds_toArray, List.set_cons_zero, List.set_cons_succ]
                      try simp only [Act.put, List.getElem_toArray, List.getElem_cons_succ, List.getElem_cons_zero, List.setIfInBounds_toArray, List.set_cons_zero, List.set_cons_succ]
                      refine wpAnyH_done (by kernel_rfl) ?_ _
                      replace hbi := hbi.trans (hb11.mono hbi.size)
                      clear hPS hr
                      have hXs := hXr.on hb11
                      have hNr := hN10.below hbi
                      have hNl : evsN.length = D.length := HLN.out
                      have hDl : D.length = D.length := rfl
                      have hKl : K < D.length := by omega
                      obtain ⟨hst, hE2⟩ := hE.step hHl hKl (by rw [← HEN.out]; exact HEC.out)
                      rw [← HEN.out] at hst
                      obtain ⟨p, ep⟩ : ∃ p, p = evsN[K]'(by omega) := ⟨_, rfl⟩
                      have hpx : p.x = n.x := by
                        rw [ep, hst, hNr.get K (by omega) (by omega)]
                      obtain ⟨bN, oN, rfl, hbN, r0, r1, r2, r3, r4, r5, r6⟩ := ev_at_k (Rd.own hNr.row) K (by omega)
                      have hel := hNr.lists p (by rw [ep]; exact List.getElem_mem _)
                      rw [← ep] at r0 r1 r2 r3 r4 r5 r6
                      clear ep hst hNl hDl hNr
                      obtain ⟨vpN, vfN, xN⟩ := p
                      simp only at hpx
                      subst hpx
                      replace r0 : w11.cell? ⟨bN, oN + K * 7, none⟩ = some (S n.x.key) := r0
                      replace r1 : w11.cell? ⟨bN, oN + K * 7 + 1, none⟩ = some (vpN) := r1
                      replace r2 : w11.cell? ⟨bN, oN + K * 7 + 2, none⟩ = some (.int .i64 n.x.st) := r2
                      replace r3 : w11.cell? ⟨bN, oN + K * 7 + 3, none⟩ = some (vfN) := r3
                      replace r4 : w11.cell? ⟨bN, oN + K * 7 + 4, none⟩ = some (S n.x.body) := r4
                      replace r5 : w11.cell? ⟨bN, oN + K * 7 + 5, none⟩ = some (.int .i64 n.x.asked) := r5
                      replace r6 : w11.cell? ⟨bN, oN + K * 7 + 6, none⟩ = some (.int .i64 n.x.came) := r6
                      have q0 := g0
                      have q1 := g1
                      have q2 := ((bcell hb11).1 bW (oW + H * 7 + 2) hbW).trans g2
                      have q3 := ((bcell hb11).1 bW (oW + H * 7 + 3) hbW).trans g3
                      have q4 := ((bcell hb11).1 bW (oW + H * 7 + 4) hbW).trans g4
                      have q5 := ((bcell hb11).1 bW (oW + H * 7 + 5) hbW).trans g5
                      have q6 := ((bcell hb11).1 bW (oW + H * 7 + 6) hbW).trans g6
                      have fp' := fp.below hb11
                      have ff' := ff.below hb11
                      have hSm := refSame_eq ⟨n.x.key, vpW, n.x.st, vfW, n.x.body, n.x.asked, n.x.came⟩ vpN vfN n.x.lp n.x.lf w11.drew (show Fs w11.drew.heap.size w11.drew vpW n.x.lp from (fp'.mono hb11.size).drew) (show Fs w11.drew.heap.size w11.drew vfW n.x.lf from (ff'.mono hb11.size).drew) (show Fs w11.drew.heap.size w11.drew vpN n.x.lp from Fs.own hel.1) (show Fs w11.drew.heap.size w11.drew vfN n.x.lf from Fs.own hel.2)
                      simp only [En.val] at hSm
                      clear hel fp ff fp' ff' g0 g1 g2 g3 g4 g5 g6 x0 x1 hXs hXe hXr hRr hRI
                      go_wp2_with fail
                      go_region_held3 (fun wx => wx.cell? ⟨bW, oW + H * 7, none⟩ = some (S n.x.key) ∧ wx.cell? ⟨bW, oW + H * 7 + 1, none⟩ = some (vpW) ∧ wx.cell? ⟨bW, oW + H * 7 + 2, none⟩ = some (.int .i64 n.x.st) ∧ wx.cell? ⟨bW, oW + H * 7 + 3, none⟩ = some (vfW) ∧ wx.cell? ⟨bW, oW + H * 7 + 4, none⟩ = some (S n.x.body) ∧ wx.cell? ⟨bW, oW + H * 7 + 5, none⟩ = some (.int .i64 n.x.asked) ∧ wx.cell? ⟨bW, oW + H * 7 + 6, none⟩ = some (.int .i64 n.x.came) ∧ wx.cell? ⟨bN, oN + K * 7, none⟩ = some (S n.x.key) ∧ wx.cell? ⟨bN, oN + K * 7 + 1, none⟩ = some (vpN) ∧ wx.cell? ⟨bN, oN + K * 7 + 2, none⟩ = some (.int .i64 n.x.st) ∧ wx.cell? ⟨bN, oN + K * 7 + 3, none⟩ = some (vfN) ∧ wx.cell? ⟨bN, oN + K * 7 + 4, none⟩ = some (S n.x.body) ∧ wx.cell? ⟨bN, oN + K * 7 + 5, none⟩ = some (.int .i64 n.x.asked) ∧ wx.cell? ⟨bN, oN + K * 7 + 6, none⟩ = some (.int .i64 n.x.came))
                        (first | go_keep)
                        ((go_at_call 15; (with_reducible refine hSm.mono ?_); rintro e w12 ⟨rfl, hb12⟩; replace hb12 := Bl.undrew hb12; replace q0 := ((bcell hb12).1 bW (oW + H * 7) (Nat.lt_of_lt_of_le hbW hb11.size)).trans q0; replace q1 := ((bcell hb12).1 bW (oW + H * 7 + 1) (Nat.lt_of_lt_of_le hbW hb11.size)).trans q1; replace q2 := ((bcell hb12).1 bW (oW + H * 7 + 2) (Nat.lt_of_lt_of_le hbW hb11.size)).trans q2; replace q3 := ((bcell hb12).1 bW (oW + H * 7 + 3) (Nat.lt_of_lt_of_le hbW hb11.size)).trans q3; replace q4 := ((bcell hb12).1 bW (oW + H * 7 + 4) (Nat.lt_of_lt_of_le hbW hb11.size)).trans q4; replace q5 := ((bcell hb12).1 bW (oW + H * 7 + 5) (Nat.lt_of_lt_of_le hbW hb11.size)).trans q5; replace q6 := ((bcell hb12).1 bW (oW + H * 7 + 6) (Nat.lt_of_lt_of_le hbW hb11.size)).trans q6; replace r0 := ((bcell hb12).1 bN (oN + K * 7) hbN).trans r0; replace r1 := ((bcell hb12).1 bN (oN + K * 7 + 1) hbN).trans r1; replace r2 := ((bcell hb12).1 bN (oN + K * 7 + 2) hbN).trans r2; replace r3 := ((bcell hb12).1 bN (oN + K * 7 + 3) hbN).trans r3; replace r4 := ((bcell hb12).1 bN (oN + K * 7 + 4) hbN).trans r4; replace r5 := ((bcell hb12).1 bN (oN + K * 7 + 5) hbN).trans r5; replace r6 := ((bcell hb12).1 bN (oN + K * 7 + 6) hbN).trans r6))
                      all_goals
                        go_wp2_with fail
                        go_roundw
                        case rel => exact ⟨H, K, by go_num, by go_num, by omega, by omega, hE2, hbi.trans (hb12.mono hbi.size)⟩
                        case measure => (first | (simp [intOf]; done) | (simp [intOf]; omega))
                  · have hr : (n.x.key == xkey) = false := by simp [hk]
                    have HEC := Lib.hid (show alikeP xkey xlp n = false by unfold alikeP; rw [hr]; rfl)
                    clear hk
                    obtain ⟨w11, e11⟩ : ∃ w11 : World, w11 = wr.drew := ⟨_, rfl⟩
                    have hb11 : Below wr.heap.size wr w11 := by rw [e11]; exact (Below.refl _ _).drew
                    have hXe := hXr.on hb11
                    go_wp2_with fail
                    refine wp_region_held_drew (S := (fun wx => wx.cell? ⟨bW, oW + H * 7, none⟩ = some (S n.x.key) ∧ wx.cell? ⟨bW, oW + H * 7 + 1, none⟩ = some vpW ∧ wx.cell? ⟨X, 0, none⟩ = some (S xkey) ∧ wx.cell? ⟨X, 1, none⟩ = some (.slice axp xlp.length kxp))) (by kernel_rfl) ⟨g0, g1, x0, x1⟩ (fun hHeld => ?_)
                    refine wpAnyH_take (i := 0) (v := ?_) (by rfl) (by kernel_rfl) (by kernel_rfl) (by kernel_rfl) (by exact fun _ _ _ h => h) (Or.inl ⟨by rfl, ?_⟩) hHeld ?_
                    rotate_left
                    · (intro w hSw; (try dsimp only at hSw); go_simp; try with_reducible rfl)
                    simp only [Act.put, List.getElem_toArray, List.getElem_cons_succ, List.getElem_cons_zero, List.setIfInBounds_toArray, List.set_cons_zero, List.set_cons_succ]
                    refine wpAnyH_take (i := 1) (v := ?_) (by rfl) (by kernel_rfl) (by kernel_rfl) (by kernel_rfl) (by exact fun _ _ _ h => h) (Or.inl ⟨by rfl, ?_⟩) hHeld ?_
                    rotate_left
                    · (intro w hSw; (try dsimp only at hSw); go_simp; try with_reducible rfl)
                    simp only [Act.put, List.getElem_toArray, List.getElem_cons_succ, List.getElem_cons_zero, List.setIfInBounds_toArray, List.set_cons_zero, List.set_cons_succ]
                    refine wpAnyH_take (i := 2) (v := ?_) (by rfl) (by kernel_rfl) (by kernel_rfl) (by kernel_rfl) (by exact fun _ _ _ h => h) (Or.inl ⟨by rfl, ?_⟩) hHeld ?_
                    rotate_left
                    · (intro w hSw; (try dsimp only at hSw); go_simp; try with_reducible rfl)
                    simp only [Act.put, List.getElem_toArray, List.getElem_cons_succ, List.getElem_cons_zero, List.setIfInBounds_toArray, List.set_cons_zero, List.set_cons_succ]
                    refine wpAnyH_take (i := 3) (v := ?_) (by rfl) (by kernel_rfl) (by kernel_rfl) (by kernel_rfl) (by exact fun _ _ _ h => h) (Or.inl ⟨by rfl, ?_⟩) hHeld ?_
                    rotate_left
                    · (intro w hSw; (try dsimp only at hSw); go_simp; try with_reducible rfl)
                    simp only [Act.put, List.getElem_toArray, List.getElem_cons_succ, List.getElem_cons_zero, List.setIfInBounds_toArray, List.set_cons_zero, List.set_cons_succ]
                    refine wpAnyH_take (i := 4) (v := ?_) (by rfl) (by kernel_rfl) (by kernel_rfl) (by kernel_rfl) (by exact fun _ _ _ h => h) (Or.inl ⟨by rfl, ?_⟩) hHeld ?_
                    rotate_left
                    · (intro w hSw; (try dsimp only at hSw); go_simp; try with_reducible rfl)
                    simp only [Act.put, List.getElem_toArray, List.getElem_cons_succ, List.getElem_cons_zero, List.setIfInBounds_toArray, List.set_cons_zero, List.set_cons_succ]
                    refine wpAnyH_take (i := 5) (v := ?_) (by rfl) (by kernel_rfl) (by kernel_rfl) (by kernel_rfl) (by exact fun _ _ _ h => h) (Or.inl ⟨by rfl, ?_⟩) hHeld ?_
                    rotate_left
                    · (intro w hSw; (try dsimp only at hSw); go_simp; try with_reducible rfl)
                    simp only [Act.put, List.getElem_toArray, List.getElem_cons_succ, List.getElem_cons_zero, List.setIfInBounds_toArray, List.set_cons_zero, List.set_cons_succ]
                    refine wpAnyH_take (i := 6) (v := ?_) (by rfl) (by kernel_rfl) (by kernel_rfl) (by kernel_rfl) (by exact fun _ _ _ h => h) (Or.inl ⟨by rfl, ?_⟩) hHeld ?_
                    rotate_left
                    · (intro w hSw; (try dsimp only at hSw); go_simp; try with_reducible rfl)
                    simp only [Act.put, List.getElem_toArray, List.getElem_cons_succ, List.getElem_cons_zero, List.setIfInBounds_toArray, List.set_cons_zero, List.set_cons_succ]
                    refine wpAnyH_take (i := 7) (v := ?_) (by rfl) (by kernel_rfl) (by kernel_rfl) (by kernel_rfl) (by exact fun _ _ _ h => h) (Or.inl ⟨by rfl, ?_⟩) hHeld ?_
                    rotate_left
                    · (intro w hSw; (try dsimp only at hSw); go_simp; try with_reducible rfl)
                    simp only [Act.put, List.getElem_toArray, List.getElem_cons_succ, List.getElem_cons_zero, List.setIfInBounds_toArray, List.set_cons_zero, List.set_cons_succ]
                    refine wpAnyH_take (i := 8) (v := ?_) (by rfl) (by kernel_rfl) (by kernel_rfl) (by kernel_rfl) (by exact fun _ _ _ h => h) (Or.inl ⟨by rfl, ?_⟩) hHeld ?_
                    rotate_left
                    · (intro w hSw; (try dsimp only at hSw); go_simp; try with_reducible rfl)
                    simp only [Act.put, List.getElem_toArray, List.getElem_cons_succ, List.getElem_cons_zero, List.setIfInBounds_toArray, List.set_cons_zero, List.set_cons_succ]
                    refine wpAnyH_take (i := 9) (v := undef) (by rfl) (by kernel_rfl) (by kernel_rfl) (by kernel_rfl) (by exact fun _ _ _ h => h) (Or.inr ⟨by rfl, rfl⟩) hHeld ?_
                    simp only [Act.put, List.getElem_toArray, List.getElem_cons_succ, List.getElem_cons_zero, List.setIfInBounds_toArray, List.set_cons_zero, List.set_cons_succ]
                    refine wpAnyH_take (i := 10) (v := undef) (by rfl) (by kernel_rfl) (by kernel_rfl) (by kernel_rfl) (by exact fun _ _ _ h => h) (Or.inr ⟨by rfl, rfl⟩) hHeld ?_
                    simp only [Act.put, List.getElem_toArray, List.getElem_cons_succ, List.getElem_cons_zero, List.setIfInBounds_toArray, List.set_cons_zero, List.set_cons_succ]
                    refine wpAnyH_take (i := 11) (v := undef) (by rfl) (by kernel_rfl) (by kernel_rfl) (by kernel_rfl) (by exact fun _ _ _ h => h) (Or.inr ⟨by rfl, rfl⟩) hHeld ?_
                    simp only [Act.put, List.getElem_toArray, List.getElem_cons_succ, List.getElem_cons_zero, List.setIfInBounds_toArray, List.set_cons_zero, List.set_cons_succ]
                    refine wpAnyH_take (i := 12) (v := undef) (by rfl) (by kernel_rfl) (by kernel_rfl) (by kernel_rfl) (by exact fun _ _ _ h => h) (Or.inr ⟨by rfl, rfl⟩) hHeld ?_
                    simp only [Act.put, List.getElem_toArray, List.getElem_cons_succ, List.getElem_cons_zero, List.setIfInBounds_toArray, List.set_cons_zero, List.set_cons_succ]
                    refine wpAnyH_take (i := 13) (v := undef) (by rfl) (by kernel_rfl) (by kernel_rfl) (by kernel_rfl) (by exact fun _ _ _ h => h) (Or.inr ⟨by rfl, rfl⟩) hHeld ?_
                    simp only [Act.put, List.getElem_toArray, List.getElem_cons_succ, List.getElem_cons_zero, List.setIfInBounds_toArray, List.set_cons_zero, List.set_cons_succ]
                    refine wpAnyH_take (i := 14) (v := undef) (by rfl) (by kernel_rfl) (by kernel_rfl) (by kernel_rfl) (by exact fun _ _ _ h => h) (Or.inr ⟨by rfl, rfl⟩) hHeld ?_
                    simp only [Act.put, List.getElem_toArray, List.getElem_cons_succ, List.getElem_cons_zero, List.setIfInBounds_toArray, List.set_cons_zero, List.set_cons_succ]
                    refine wpAnyH_take (i := 15) (v := undef) (by rfl) (by kernel_rfl) (by kernel_rfl) (by kernel_rfl) (by exact fun _ _ _ h => h) (Or.inr ⟨by rfl, rfl⟩) hHeld ?_
                    simp only [Act.put, List.getElem_toArray, List.getElem_cons_succ, List.getElem_cons_zero, List.setIfInBounds_toArray, List.set_cons_zero, List.set_cons_succ]
                    refine wpAnyH_take (i := 16) (v := undef) (by rfl) (by kernel_rfl) (by kernel_rfl) (by kernel_rfl) (by exact fun _ _ _ h => h) (Or.inr ⟨by rfl, rfl⟩) hHeld ?_
                    simp only [Act.put, List.getElem_toArray, List.getElem_cons_succ, List.getElem_cons_zero, List.setIfInBounds_toArray, List.set_cons_zero, List.set_cons_succ]
                    refine wpAnyH_take (i := 17) (v := ?_) (by rfl) (by kernel_rfl) (by kernel_rfl) (by kernel_rfl) (by exact fun _ _ _ h => h) (Or.inl ⟨by rfl, ?_⟩) hHeld ?_
                    rotate_left
                    · (intro w hSw; (try dsimp only at hSw); go_simp; try with_reducible rfl)
                    simp only [Act.put, List.getElem_toArray, List.getElem_cons_succ, List.getElem_cons_zero, List.setIfInBounds_toArray, List.set_cons_zero, List.set_cons_succ]
                    try simp only [Act.put, List.getElem_toArray, List.getElem_cons_succ, List.getElem_cons_zero, List.setIfInBounds_toArray, List.set_cons_zero, List.set_cons_succ]
                    refine wpAnyH_done (by kernel_rfl) ?_ _
                    rw [← e11]
                    clear e11
                    replace hbi := hbi.trans (hb11.mono hbi.size)
                    clear hr
                    replace g0 := ((bcell hb11).1 bW (oW + H * 7) hbW).trans g0
                    replace g1 := ((bcell hb11).1 bW (oW + H * 7 + 1) hbW).trans g1
                    have hXs := hXr.on hb11
                    have hNr := hN10.below hbi
                    have hNl : evsN.length = D.length := HLN.out
                    have hDl : D.length = D.length := rfl
                    have hKl : K < D.length := by omega
                    obtain ⟨hst, hE2⟩ := hE.step hHl hKl (by rw [← HEN.out]; exact HEC.out)
                    rw [← HEN.out] at hst
                    obtain ⟨p, ep⟩ : ∃ p, p = evsN[K]'(by omega) := ⟨_, rfl⟩
                    have hpx : p.x = n.x := by
                      rw [ep, hst, hNr.get K (by omega) (by omega)]
                    obtain ⟨bN, oN, rfl, hbN, r0, r1, r2, r3, r4, r5, r6⟩ := ev_at_k (Rd.own hNr.row) K (by omega)
                    have hel := hNr.lists p (by rw [ep]; exact List.getElem_mem _)
                    rw [← ep] at r0 r1 r2 r3 r4 r5 r6
                    clear ep hst hNl hDl hNr
                    obtain ⟨vpN, vfN, xN⟩ := p
                    simp only at hpx
                    subst hpx
                    replace r0 : w11.cell? ⟨bN, oN + K * 7, none⟩ = some (S n.x.key) := r0
                    replace r1 : w11.cell? ⟨bN, oN + K * 7 + 1, none⟩ = some (vpN) := r1
                    replace r2 : w11.cell? ⟨bN, oN + K * 7 + 2, none⟩ = some (.int .i64 n.x.st) := r2
                    replace r3 : w11.cell? ⟨bN, oN + K * 7 + 3, none⟩ = some (vfN) := r3
                    replace r4 : w11.cell? ⟨bN, oN + K * 7 + 4, none⟩ = some (S n.x.body) := r4
                    replace r5 : w11.cell? ⟨bN, oN + K * 7 + 5, none⟩ = some (.int .i64 n.x.asked) := r5
                    replace r6 : w11.cell? ⟨bN, oN + K * 7 + 6, none⟩ = some (.int .i64 n.x.came) := r6
                    have q0 := g0
                    have q1 := g1
                    have q2 := ((bcell hb11).1 bW (oW + H * 7 + 2) hbW).trans g2
                    have q3 := ((bcell hb11).1 bW (oW + H * 7 + 3) hbW).trans g3
                    have q4 := ((bcell hb11).1 bW (oW + H * 7 + 4) hbW).trans g4
                    have q5 := ((bcell hb11).1 bW (oW + H * 7 + 5) hbW).trans g5
                    have q6 := ((bcell hb11).1 bW (oW + H * 7 + 6) hbW).trans g6
                    have fp' := fp.below hb11
                    have ff' := ff.below hb11
                    have hSm := refSame_eq ⟨n.x.key, vpW, n.x.st, vfW, n.x.body, n.x.asked, n.x.came⟩ vpN vfN n.x.lp n.x.lf w11.drew (show Fs w11.drew.heap.size w11.drew vpW n.x.lp from (fp'.mono hb11.size).drew) (show Fs w11.drew.heap.size w11.drew vfW n.x.lf from (ff'.mono hb11.size).drew) (show Fs w11.drew.heap.size w11.drew vpN n.x.lp from Fs.own hel.1) (show Fs w11.drew.heap.size w11.drew vfN n.x.lf from Fs.own hel.2)
                    simp only [En.val] at hSm
                    clear hel fp ff fp' ff' g0 g1 g2 g3 g4 g5 g6 x0 x1 hXs hXe hXr hRr hRI
                    go_wp2_with fail
                    go_region_held3 (fun wx => wx.cell? ⟨bW, oW + H * 7, none⟩ = some (S n.x.key) ∧ wx.cell? ⟨bW, oW + H * 7 + 1, none⟩ = some (vpW) ∧ wx.cell? ⟨bW, oW + H * 7 + 2, none⟩ = some (.int .i64 n.x.st) ∧ wx.cell? ⟨bW, oW + H * 7 + 3, none⟩ = some (vfW) ∧ wx.cell? ⟨bW, oW + H * 7 + 4, none⟩ = some (S n.x.body) ∧ wx.cell? ⟨bW, oW + H * 7 + 5, none⟩ = some (.int .i64 n.x.asked) ∧ wx.cell? ⟨bW, oW + H * 7 + 6, none⟩ = some (.int .i64 n.x.came) ∧ wx.cell? ⟨bN, oN + K * 7, none⟩ = some (S n.x.key) ∧ wx.cell? ⟨bN, oN + K * 7 + 1, none⟩ = some (vpN) ∧ wx.cell? ⟨bN, oN + K * 7 + 2, none⟩ = some (.int .i64 n.x.st) ∧ wx.cell? ⟨bN, oN + K * 7 + 3, none⟩ = some (vfN) ∧ wx.cell? ⟨bN, oN + K * 7 + 4, none⟩ = some (S n.x.body) ∧ wx.cell? ⟨bN, oN + K * 7 + 5, none⟩ = some (.int .i64 n.x.asked) ∧ wx.cell? ⟨bN, oN + K * 7 + 6, none⟩ = some (.int .i64 n.x.came))
                      (first | go_keep)
                      ((go_at_call 15; (with_reducible refine hSm.mono ?_); rintro e w12 ⟨rfl, hb12⟩; replace hb12 := Bl.undrew hb12; replace q0 := ((bcell hb12).1 bW (oW + H * 7) (Nat.lt_of_lt_of_le hbW hb11.size)).trans q0; replace q1 := ((bcell hb12).1 bW (oW + H * 7 + 1) (Nat.lt_of_lt_of_le hbW hb11.size)).trans q1; replace q2 := ((bcell hb12).1 bW (oW + H * 7 + 2) (Nat.lt_of_lt_of_le hbW hb11.size)).trans q2; replace q3 := ((bcell hb12).1 bW (oW + H * 7 + 3) (Nat.lt_of_lt_of_le hbW hb11.size)).trans q3; replace q4 := ((bcell hb12).1 bW (oW + H * 7 + 4) (Nat.lt_of_lt_of_le hbW hb11.size)).trans q4; replace q5 := ((bcell hb12).1 bW (oW + H * 7 + 5) (Nat.lt_of_lt_of_le hbW hb11.size)).trans q5; replace q6 := ((bcell hb12).1 bW (oW + H * 7 + 6) (Nat.lt_of_lt_of_le hbW hb11.size)).trans q6; replace r0 := ((bcell hb12).1 bN (oN + K * 7) hbN).trans r0; replace r1 := ((bcell hb12).1 bN (oN + K * 7 + 1) hbN).trans r1; replace r2 := ((bcell hb12).1 bN (oN + K * 7 + 2) hbN).trans r2; replace r3 := ((bcell hb12).1 bN (oN + K * 7 + 3) hbN).trans r3; replace r4 := ((bcell hb12).1 bN (oN + K * 7 + 4) hbN).trans r4; replace r5 := ((bcell hb12).1 bN (oN + K * 7 + 5) hbN).trans r5; replace r6 := ((bcell hb12).1 bN (oN + K * 7 + 6) hbN).trans r6))
                    all_goals
                      go_wp2_with fail
                      go_roundw
                      case rel => exact ⟨H, K, by go_num, by go_num, by omega, by omega, hE2, hbi.trans (hb12.mono hbi.size)⟩
                      case measure => (first | (simp [intOf]; done) | (simp [intOf]; omega))
        · obtain rfl : j = k := by omega
          go_wp2
          go_ret
          exact ⟨rfl, by rw [← HB.out]; exact hwr⟩
end Go.Proofs.YthjkbempgnihmaaDoor
