
/- The walk of a law of layer 19: every script answers as the document says. Printed by playgen.py. -/
import Derived.Test.YtnflihjgbkocnaaDoorLaw19a
import Derived.Test.YtnflihjgbkocnaaDoorLaw19b
import Derived.Test.YtnflihjgbkocnaaDoorLaw19g
import Derived.Test.YtnflihjgbkocnaaDoorTwo2
import Derived.Test.YtnflihjgbkocnaaDoorShf5
import Derived.Test.YtnflihjgbkocnaaDoorOpen6
namespace Go.Proofs.YtnflihjgbkocnaaDoor
open Go.RowKit Go.Dr

set_option linter.unusedSimpArgs false in
set_option linter.unusedVariables false in
set_option linter.unnecessarySimpa false in
theorem wf_of {n : Int} (h : I64 n) : (Lit.int .i64 n).wf = true := by
  unfold I64 at h
  simpa [Lit.wf, IntKind.min, IntKind.max, IntKind.signed, IntKind.bits] using h
set_option linter.unusedSimpArgs false in
set_option linter.unusedVariables false in
set_option linter.unnecessarySimpa false in
theorem Keeps.own {w w' : World} {base : Nat} {e : TypeId} {size : Nat} {v : Value} {n : Nat} {xs : List Value} (h : Keeps w w') (ho : w.ownsRow base e size v n xs) (h1 : e ≠ 60) (h2 : e ≠ 57) (h3 : e ≠ 32) : w'.ownsRow base e size v n xs :=
  own_block ho fun g cur hg _ => (h g e cur h1 h2 h3 hg).trans hg.symm

set_option linter.unusedSimpArgs false in
set_option linter.unusedVariables false in
set_option linter.unnecessarySimpa false in
set_option maxRecDepth 100000 in
set_option maxHeartbeats 32000000 in
theorem plays_law (most : Int) (vs : Value) (L : List Dv) (w : World) (hD : Ds w.heap.size w vs L) (hN : ∀ d ∈ L, d.Num) (hok : ∀ d ∈ L, d.Ok) :
    Calls Tryd.prog 3 #[.int .i64 most, vs] w fun e w' => e = .returned (.bool true) ∧ Below w.heap.size w w' := by
  obtain ⟨pa, pc, rfl, hm⟩ := hD.form
  have HN := Lib.hid hN
  have HOK := Lib.hid hok
  clear hN hok
  go_enter Tryd.func3, Tryd.ntmps3
  go_wp2_with fail
  refine (awake19_any w).mono ?_
  rintro e w1 ⟨rfl, hb1⟩
  have hD1 := (hD.below hb1).mono hb1.size
  go_wp2_with fail
  refine (few19_any L _ w1 hD1 HOK.out).mono ?_
  rintro e w2 ⟨fb, rfl, hsm, hb2⟩
  have HSM := Lib.hid hsm
  clear hsm
  have hw2 := Bl.tr hb1 hb2
  have hD2 := (hD1.below hb2).mono hb2.size
  clear hD hD1 hb1 hb2
  cases fb with
  | false =>
    go_wp2
    go_ret
    exact ⟨rfl, hw2⟩
  | true =>
  have HS := Lib.hid (HSM.out rfl)
  clear HSM
  by_cases hrng : 0 ≤ most ∧ most ≤ 1048576
  · obtain ⟨M, rfl⟩ : ∃ M : Nat, most = (M : Int) := ⟨most.toNat, by omega⟩
    have hM : M ≤ 1048576 := by omega
    clear hrng
    have t1 : decide ((M : Int) < 0) = false := by simp
    have t2 : decide ((1048576 : Int) < (M : Int)) = false := by simp; omega
    have t3 : decide (1048576 < M) = false := by simp; omega
    have HNw := New_any (M : Int) (by omega) (by omega) w2
    go_wp2_with fail
    refine HNw.mono ?_
    rintro e w3 ⟨rfl, hb3, n1, n2, n3⟩
    have hs3 : Sh w2.heap.size w2.heap.size w3 (w2.heap.size + 2) w2.heap.size (w2.heap.size + 1) (M : Int) 0 [] := sh_new n1 n2 n3 (Nat.le_refl _) (by omega) (by omega)
    obtain ⟨R, eR⟩ : ∃ R, R = w2.heap.size := ⟨_, rfl⟩
    rw [← eR] at hs3 hb3 hD2 ⊢
    have hRw : w.heap.size ≤ R := by rw [eR]; exact hw2.size
    have hw3 : Below w.heap.size w w3 := hw2.trans (hb3.mono hRw)
    have hD3 := hD2.below hb3
    have hR3 : R < w3.heap.size := hs3.rlt
    obtain ⟨w4, e4⟩ : ∃ w4 : World, w4 = w3.alloc (.cells #[.int .i64 (M : Int), .int .i64 0, .slice none 0 0] 32) := ⟨_, rfl⟩
    obtain ⟨r, er0⟩ : ∃ r, r = w3.heap.size := ⟨_, rfl⟩
    have hrb : Blk w4 r 32 #[.int .i64 (M : Int), .int .i64 0, .slice none 0 0] := by rw [e4, er0]; exact Blk.new _ _ _
    have hb4 : Below w3.heap.size w3 w4 := by rw [e4]; exact (Below.refl _ _).alloc (Nat.le_refl _) _
    have hT4 : Two w4 R r M 0 (.slice none 0 0) [] [] := ⟨hs3.below hb4, ⟨hrb, World.ownsRow_nil _ _ _ _, by simp, by omega, by simp, by omega⟩, rfl⟩
    have hw4 : Below w.heap.size w w4 := hw3.trans (hb4.mono (by omega))
    have hD4 := hD3.below (hb4.mono (by omega))
    have hR4 : R ≤ w4.heap.size := Nat.le_of_lt hT4.rlt
    have HW := Lib.hid e4
    have HR := Lib.hid er0
    clear e4 er0 n1 n2 n3 eR hD2 hD3 hb3 hb4 hw3 hs3 hw2 HNw hrb hR3
    go_upto_region 9 with fail
    rw [← HR.out, ← HW.out]
    clear HR HW
    go_wp2
    go_loopw [8] (fun i wr => ∃ (j : Nat) (last : Int) (v : Value) (er : List Ev) (l : List Nd), i = .int .i64 j ∧ j ≤ L.length ∧ j ≤ 60 ∧ Two wr R r M last v er l ∧ (∀ n ∈ l, n.x.id ≤ last) ∧ 0 ≤ last ∧ last ≤ (j : Int) ∧ Below R w4 wr) (fun i _ => L.length - (intOf i).toNat)
    case atStart => exact ⟨0, 0, _, [], [], rfl, Nat.zero_le _, by omega, hT4, by simp, by omega, by omega, Below.refl _ _⟩
    case round =>
      obtain ⟨j, last, v, er, l, rfl, hj, hj60, hT, hids, hla, hla2, hbr⟩ := hrel
      obtain ⟨wo, rfl⟩ : ∃ wo : World, wo = wr := ⟨_, rfl⟩
      have hDr := hD4.below hbr
      have hwr : Below w.heap.size w wo := hw4.trans (hbr.mono hRw)
      by_cases hlt : j < L.length
      · by_cases h60 : j < 60
        · obtain ⟨b, off, rfl, hbb, c0, c1, c2, c3, c4, c5, c6, c7, c8, c9⟩ := hDr.at j hlt
          have hdd := hDr.2 L[j] (List.getElem_mem hlt)
          have hds := HS.out L[j] (List.mem_take_iff_getElem.2 ⟨j, by omega, rfl⟩)
          have hdn := HN.out L[j] (List.getElem_mem hlt)
          obtain ⟨d, ed⟩ : ∃ d, d = L[j] := ⟨_, rfl⟩
          rw [← ed] at c0 c1 c2 c3 c4 c5 c6 c7 c8 c9 hdd hds hdn
          clear ed
          obtain ⟨kind, num, ⟨key, vp, st, vf, body, asked, came⟩, vl, lp, lf, ll⟩ := d
          obtain ⟨ap, kp, hxp, -⟩ := hdd.1.form
          obtain ⟨af, kf, hxf, -⟩ := hdd.2.1.form
          obtain ⟨al, kl, hxl, -⟩ := hdd.2.2.form
          simp only at c0 c1 c2 c3 c4 c5 c6 c7 c8 c9 hxp hxf hxl
          subst hxp hxf hxl
          have hp : Fs R wo (.slice ap lp.length kp) lp := hdd.1
          have hf : Fs R wo (.slice af lf.length kf) lf := hdd.2.1
          have hl : Fs R wo (.slice al ll.length kl) ll := hdd.2.2
          have r1 : key.length ≤ 65536 := hds.key
          have r2 : body.length ≤ 2097152 := hds.body
          have r3 : fsum lp ≤ 551600 := hds.sum
          have r4 : fsum lf ≤ 131072 := hds.lf
          have r5 : fsum ll ≤ 131072 := hds.ll
          have hnum : (Lit.int .i64 num).wf = true := wf_of hdn.2.1
          obtain ⟨wx, ex⟩ : ∃ wx : World, wx = wo.alloc (.cells #[.int .i64 kind, .int .i64 num, S key, .slice ap lp.length kp, .int .i64 st, .slice af lf.length kf, S body, .int .i64 asked, .int .i64 came, .slice al ll.length kl] 38) := ⟨_, rfl⟩
          obtain ⟨D, eD⟩ : ∃ D, D = wo.heap.size := ⟨_, rfl⟩
          have hX : Blk wx D 38 #[.int .i64 kind, .int .i64 num, S key, .slice ap lp.length kp, .int .i64 st, .slice af lf.length kf, S body, .int .i64 asked, .int .i64 came, .slice al ll.length kl] := by rw [ex, eD]; exact Blk.new _ _ _
          have hbx : Below wo.heap.size wo wx := by rw [ex]; exact (Below.refl _ _).alloc (Nat.le_refl _) _
          have hRo : R ≤ wo.heap.size := Nat.le_of_lt hT.rlt
          have hTx := hT.below hbx
          have hpx := hp.below (hbx.mono hRo)
          have hfx := hf.below (hbx.mono hRo)
          have hlx := hl.below (hbx.mono hRo)
          have hRx : R ≤ wx.heap.size := Nat.le_of_lt hTx.rlt
          have hwx : Below R w4 wx := hbr.trans (hbx.mono hRo)
          have HX := Lib.hid ex
          have HDD := Lib.hid eD
          clear ex eD hdd hds hdn hp hf hl hDr hbx hT hbr hwr hD4 hT4
          go_upto_region 15 with fail
          rw [← HDD.out, ← HX.out]
          clear HX HDD c0 c1 c2 c3 c4 c5 c6 c7 c8 c9
          have hC1 := Cost_any ⟨key, .slice ap lp.length kp, st, .slice af lf.length kf, body, asked, came⟩ lp lf wx.drew (show Fs wx.drew.heap.size wx.drew _ lp from (hpx.mono hRx).drew) (show Fs wx.drew.heap.size wx.drew _ lf from (hfx.mono hRx).drew) (by show key.length ≤ _; omega) (by show body.length ≤ _; omega) (by omega) (by omega)
          have hC2 := Lib.hid (fun wy h1 h2 => refCost_any ⟨key, .slice ap lp.length kp, st, .slice af lf.length kf, body, asked, came⟩ lp lf wy h1 h2 (by show key.length ≤ _; omega) (by show body.length ≤ _; omega) (by omega) (by omega))
          simp only [En.val] at hC1 hC2
          obtain ⟨cq, ecq⟩ : ∃ cq, cq = costF ⟨key, .slice ap lp.length kp, st, .slice af lf.length kf, body, asked, came⟩ lp lf := ⟨_, rfl⟩
          rw [← ecq] at hC1 hC2
          clear ecq
          go_wp2_with fail
          refine wp_region_held_drew (S := (fun wy => wy.cell? ⟨D, 2, none⟩ = some (S key) ∧ wy.cell? ⟨D, 2 + 1, none⟩ = some (.slice ap lp.length kp) ∧ wy.cell? ⟨D, 2 + 2, none⟩ = some (.int .i64 st) ∧ wy.cell? ⟨D, 2 + 3, none⟩ = some (.slice af lf.length kf) ∧ wy.cell? ⟨D, 2 + 4, none⟩ = some (S body) ∧ wy.cell? ⟨D, 2 + 5, none⟩ = some (.int .i64 asked) ∧ wy.cell? ⟨D, 2 + 6, none⟩ = some (.int .i64 came))) (by kernel_rfl) ⟨hX.cell 2, hX.cell 3, hX.cell 4, hX.cell 5, hX.cell 6, hX.cell 7, hX.cell 8⟩ (fun hHeld => ?_)
          refine wpAnyH_take (i := 0) (v := ?_) (by rfl) (by kernel_rfl) (by kernel_rfl) (by kernel_rfl) (by exact fun _ _ _ h => h) (Or.inl ⟨by rfl, ?_⟩) hHeld ?_
          rotate_left
          · (intro w hSw; (try dsimp only at hSw); go_simp; try with_reducible rfl)
          simp only [Act.put, List.getElem_toArray, List.getElem_cons_succ, List.getElem_cons_zero, List.setIfInBounds_toArray, List.set_cons_zero, List.set_cons_succ]
          refine wpAnyH_take (i := 1) (v := ?_) (by rfl) (by kernel_rfl) (by kernel_rfl) (by kernel_rfl) (by exact fun _ _ _ h => h) (Or.inl ⟨by rfl, ?_⟩) hHeld ?_
          rotate_left
          · (intro w hSw; (try dsimp only at hSw); go_simp; try with_reducible rfl)
          simp only [Act.put, List.getElem_toArray, List.getElem_cons_succ, List.getElem_cons_zero, List.setIfInBounds_toArray, List.set_cons_zero, List.set_cons_succ]
          refine wpAnyH_take (i := 3) (v := ?_) (by rfl) (by kernel_rfl) (by kernel_rfl) (by kernel_rfl) (by exact fun _ _ _ h => h) (Or.inl ⟨by rfl, ?_⟩) hHeld ?_
          rotate_left
          · (intro w hSw; (try dsimp only at hSw); go_simp; try with_reducible rfl)
          simp only [Act.put, List.getElem_toArray, List.getElem_cons_succ, List.getElem_cons_zero, List.setIfInBounds_toArray, List.set_cons_zero, List.set_cons_succ]
          refine wpAnyH_take (i := 4) (v := ?_) (by rfl) (by kernel_rfl) (by kernel_rfl) (by kernel_rfl) (by exact fun _ _ _ h => h) (Or.inl ⟨by rfl, ?_⟩) hHeld ?_
          rotate_left
          · (intro w hSw; (try dsimp only at hSw); go_simp; try with_reducible rfl)
          simp only [Act.put, List.getElem_toArray, List.getElem_cons_succ, List.getElem_cons_zero, List.setIfInBounds_toArray, List.set_cons_zero, List.set_cons_succ]
          refine wpAnyH_ready (rs := [2]) (by kernel_rfl) (by simp) ?_
          refine AllReadyH.cons (by rfl) (fun K hK => ?_) AllReadyH.nil
          go_simp
          (with_reducible refine hC1.mono ?_); rintro e wy ⟨rfl, hby⟩; replace hby := Bl.undrew hby; have hXy := hX.on hby; have hTy := hTx.below hby; have hpy := (hpx.below (hby.mono hRx)); have hfy := (hfx.below (hby.mono hRx)); have hRy : R ≤ wy.heap.size := Nat.le_of_lt hTy.rlt
          refine hK.out _ _ ⟨hXy.cell 2, hXy.cell 3, hXy.cell 4, hXy.cell 5, hXy.cell 6, hXy.cell 7, hXy.cell 8⟩ (fun hHeld => ?_)
          clear hK K
          try simp only [Act.put, List.getElem_toArray, List.getElem_cons_succ, List.getElem_cons_zero, List.setIfInBounds_toArray, List.set_cons_zero, List.set_cons_succ]
          refine wpAnyH_ready (rs := [5]) (by kernel_rfl) (by simp) ?_
          refine AllReadyH.cons (by rfl) (fun K hK => ?_) AllReadyH.nil
          go_simp
          (refine (hC2.out wy (hpy.mono hRy) (hfy.mono hRy)).mono ?_); rintro e wz ⟨rfl, hbz⟩; have hXz := hXy.on hbz
          refine hK.out _ _ ⟨hXz.cell 2, hXz.cell 3, hXz.cell 4, hXz.cell 5, hXz.cell 6, hXz.cell 7, hXz.cell 8⟩ (fun hHeld => ?_)
          clear hK K
          try simp only [Act.put, List.getElem_toArray, List.getElem_cons_succ, List.getElem_cons_zero, List.setIfInBounds_toArray, List.set_cons_zero, List.set_cons_succ]
          refine wpAnyH_take (i := 6) (v := ?_) (by rfl) (by kernel_rfl) (by kernel_rfl) (by kernel_rfl) (by exact fun _ _ _ h => h) (Or.inl ⟨by rfl, ?_⟩) hHeld ?_
          rotate_left
          · (intro w hSw; (try dsimp only at hSw); go_simp; try with_reducible rfl)
          simp only [Act.put, List.getElem_toArray, List.getElem_cons_succ, List.getElem_cons_zero, List.setIfInBounds_toArray, List.set_cons_zero, List.set_cons_succ]
          try simp only [Act.put, List.getElem_toArray, List.getElem_cons_succ, List.getElem_cons_zero, List.setIfInBounds_toArray, List.set_cons_zero, List.set_cons_succ]
          refine wpAnyH_done (by kernel_rfl) ?_ _
          have hTz := hTy.below hbz
          have hpz := hpy.below (hbz.mono hRy)
          have hfz := hfy.below (hbz.mono hRy)
          have hlz := (hlx.below (hby.mono hRx)).below (hbz.mono hRy)
          have hRz : R ≤ wz.heap.size := Nat.le_of_lt hTz.rlt
          have hwz : Below R w4 wz := (hwx.trans (hby.mono hRx)).trans (hbz.mono hRy)
          clear hC1 hC2 hX hXy hTx hTy hpx hfx hlx hpy hfy hby hbz hwx hRx hRy
          have k0 : wz.cell? ⟨D, 0, none⟩ = some (.int .i64 kind) := hXz.cell 0
          go_upto_region 17 with fail
          go_cut [9, 77] (fun s9 s77 wx => s9 = Ptr D ∧ s77 = .int .i64 kind ∧ wx = wz)
          case first =>
            go_wp2
            go_meet
            exact ⟨rfl, rfl, rfl⟩
          case rest =>
          obtain ⟨rfl, rfl, hwc⟩ := hcut
          rw [hwc]
          clear hwc
          go_step
          go_cut [9] (fun s9 wx => ∃ (last' : Int) (v' : Value) (er' : List Ev) (l' : List Nd), s9 = Ptr D ∧ Two wx R r M last' v' er' l' ∧ (∀ n ∈ l', n.x.id ≤ last') ∧ 0 ≤ last' ∧ last' ≤ (j : Int) + 1 ∧ Blk wx D 38 #[.int .i64 kind, .int .i64 num, S key, .slice ap lp.length kp, .int .i64 st, .slice af lf.length kf, S body, .int .i64 asked, .int .i64 came, .slice al ll.length kl] ∧ Below R w4 wx)
          case first =>
            by_cases hk0 : kind = 0
            · have p0 : (kind == 0) = true := by simp [hk0]
              have p0' : decide (kind = 0) = true := by simp [hk0]
              clear hk0
              have x0 : wz.cell? ⟨D, 0, none⟩ = some (.int .i64 kind) := hXz.cell 0; have x1 : wz.cell? ⟨D, 1, none⟩ = some (.int .i64 num) := hXz.cell 1; have x2 : wz.cell? ⟨D, 2, none⟩ = some (S key) := hXz.cell 2; have x3 : wz.cell? ⟨D, 3, none⟩ = some (.slice ap lp.length kp) := hXz.cell 3; have x4 : wz.cell? ⟨D, 4, none⟩ = some (.int .i64 st) := hXz.cell 4; have x5 : wz.cell? ⟨D, 5, none⟩ = some (.slice af lf.length kf) := hXz.cell 5; have x6 : wz.cell? ⟨D, 6, none⟩ = some (S body) := hXz.cell 6; have x7 : wz.cell? ⟨D, 7, none⟩ = some (.int .i64 asked) := hXz.cell 7; have x8 : wz.cell? ⟨D, 8, none⟩ = some (.int .i64 came) := hXz.cell 8; have x9 : wz.cell? ⟨D, 9, none⟩ = some (.slice al ll.length kl) := hXz.cell 9; have u1 : wz.cell? ⟨D, 2 + 1, none⟩ = some (.slice ap lp.length kp) := hXz.cell 3; have u2 : wz.cell? ⟨D, 2 + 2, none⟩ = some (.int .i64 st) := hXz.cell 4; have u3 : wz.cell? ⟨D, 2 + 3, none⟩ = some (.slice af lf.length kf) := hXz.cell 5; have u4 : wz.cell? ⟨D, 2 + 4, none⟩ = some (S body) := hXz.cell 6; have u5 : wz.cell? ⟨D, 2 + 5, none⟩ = some (.int .i64 asked) := hXz.cell 7; have u6 : wz.cell? ⟨D, 2 + 6, none⟩ = some (.int .i64 came) := hXz.cell 8
              obtain ⟨ra, rb, hPut⟩ := two_put hTz hids ⟨hla, by omega⟩ ⟨key, .slice ap lp.length kp, st, .slice af lf.length kf, body, asked, came⟩ lp lf (.inl hpz) (.inl hfz) (by show key.length ≤ _; omega) (by show body.length ≤ _; omega) (by omega) (by omega)
              simp only [En.val] at hPut
              have q1 : (ra != ra) = false := by simp
              have q2 : (rb != rb) = false := by simp
              have q3 : (ra == ra) = true := by simp
              have q4 : (rb == rb) = true := by simp
              go_wp2_with fail
              refine hPut.mono ?_
              rintro e wp ⟨rfl, hkp, hbp, hrefp⟩
              have hXp := hkp D _ _ (by decide) (by decide) (by decide) hXz
              have hrf := hrefp wp (Below.refl _ _)
              clear x0 x1 x2 x3 x4 x5 x6 x7 x8 x9 u1 u2 u3 u4 u5 u6 hPut hrefp
              have x0 : wp.cell? ⟨D, 0, none⟩ = some (.int .i64 kind) := hXp.cell 0; have x1 : wp.cell? ⟨D, 1, none⟩ = some (.int .i64 num) := hXp.cell 1; have x2 : wp.cell? ⟨D, 2, none⟩ = some (S key) := hXp.cell 2; have x3 : wp.cell? ⟨D, 3, none⟩ = some (.slice ap lp.length kp) := hXp.cell 3; have x4 : wp.cell? ⟨D, 4, none⟩ = some (.int .i64 st) := hXp.cell 4; have x5 : wp.cell? ⟨D, 5, none⟩ = some (.slice af lf.length kf) := hXp.cell 5; have x6 : wp.cell? ⟨D, 6, none⟩ = some (S body) := hXp.cell 6; have x7 : wp.cell? ⟨D, 7, none⟩ = some (.int .i64 asked) := hXp.cell 7; have x8 : wp.cell? ⟨D, 8, none⟩ = some (.int .i64 came) := hXp.cell 8; have x9 : wp.cell? ⟨D, 9, none⟩ = some (.slice al ll.length kl) := hXp.cell 9; have u1 : wp.cell? ⟨D, 2 + 1, none⟩ = some (.slice ap lp.length kp) := hXp.cell 3; have u2 : wp.cell? ⟨D, 2 + 2, none⟩ = some (.int .i64 st) := hXp.cell 4; have u3 : wp.cell? ⟨D, 2 + 3, none⟩ = some (.slice af lf.length kf) := hXp.cell 5; have u4 : wp.cell? ⟨D, 2 + 4, none⟩ = some (S body) := hXp.cell 6; have u5 : wp.cell? ⟨D, 2 + 5, none⟩ = some (.int .i64 asked) := hXp.cell 7; have u6 : wp.cell? ⟨D, 2 + 6, none⟩ = some (.int .i64 came) := hXp.cell 8
              go_wp2_with fail
              refine hrf.mono ?_
              rintro e wq ⟨rfl, last', v', er', l', hTq, hidq, hlo, hhi, -, hkq, hbq⟩
              have hXq := hkq D _ _ (by decide) (by decide) (by decide) hXp
              replace hbq := (hwz.trans hbp).trans hbq
              clear x0 x1 x2 x3 x4 x5 x6 x7 x8 x9 u1 u2 u3 u4 u5 u6 hrf hkq hkp hXp hbp
              go_wp2
              go_meet
              exact ⟨last', v', er', l', rfl, hTq, hidq, by omega, by omega, hXq, hbq⟩
            · have p0 : (kind == 0) = false := by simp [hk0]
              have p0' : decide (kind = 0) = false := by simp [hk0]
              by_cases hk1 : kind = 1
              · have p1 : (kind == 1) = true := by simp [hk1]
                have p1' : decide (kind = 1) = true := by simp [hk1]
                clear hk1
                have x0 : wz.cell? ⟨D, 0, none⟩ = some (.int .i64 kind) := hXz.cell 0; have x1 : wz.cell? ⟨D, 1, none⟩ = some (.int .i64 num) := hXz.cell 1; have x2 : wz.cell? ⟨D, 2, none⟩ = some (S key) := hXz.cell 2; have x3 : wz.cell? ⟨D, 3, none⟩ = some (.slice ap lp.length kp) := hXz.cell 3; have x4 : wz.cell? ⟨D, 4, none⟩ = some (.int .i64 st) := hXz.cell 4; have x5 : wz.cell? ⟨D, 5, none⟩ = some (.slice af lf.length kf) := hXz.cell 5; have x6 : wz.cell? ⟨D, 6, none⟩ = some (S body) := hXz.cell 6; have x7 : wz.cell? ⟨D, 7, none⟩ = some (.int .i64 asked) := hXz.cell 7; have x8 : wz.cell? ⟨D, 8, none⟩ = some (.int .i64 came) := hXz.cell 8; have x9 : wz.cell? ⟨D, 9, none⟩ = some (.slice al ll.length kl) := hXz.cell 9; have u1 : wz.cell? ⟨D, 2 + 1, none⟩ = some (.slice ap lp.length kp) := hXz.cell 3; have u2 : wz.cell? ⟨D, 2 + 2, none⟩ = some (.int .i64 st) := hXz.cell 4; have u3 : wz.cell? ⟨D, 2 + 3, none⟩ = some (.slice af lf.length kf) := hXz.cell 5; have u4 : wz.cell? ⟨D, 2 + 4, none⟩ = some (S body) := hXz.cell 6; have u5 : wz.cell? ⟨D, 2 + 5, none⟩ = some (.int .i64 asked) := hXz.cell 7; have u6 : wz.cell? ⟨D, 2 + 6, none⟩ = some (.int .i64 came) := hXz.cell 8
                have hFd := two_find hTz hids key (.slice al ll.length kl) ll (.inl hlz) (by omega)
                go_wp2_with fail
                refine hFd.mono ?_
                rintro e wp ⟨hkp, hbp, (⟨-, rfl, hrefp⟩ | ⟨n, v1, hnl, -, rfl, hret, hrefp⟩)⟩
                · simp only [entZ]
                  have hXp := hkp D _ _ (by decide) (by decide) (by decide) hXz
                  clear x0 x1 x2 x3 x4 x5 x6 x7 x8 x9 u1 u2 u3 u4 u5 u6 hFd
                  obtain ⟨wy1, ewy1⟩ : ∃ wy1 : World, wy1 = wp.alloc (.cells #[S [], .slice none 0 0, .int .i64 0, .slice none 0 0, S [], .int .i64 0, .int .i64 0] 36) := ⟨_, rfl⟩
                  obtain ⟨Y, eY⟩ : ∃ Y, Y = wp.heap.size := ⟨_, rfl⟩
                  have hBY : Blk wy1 Y 36 #[S [], .slice none 0 0, .int .i64 0, .slice none 0 0, S [], .int .i64 0, .int .i64 0] := by rw [ewy1, eY]; exact Blk.new _ _ _
                  have hbwy1 : Below wp.heap.size wp wy1 := by rw [ewy1]; exact (Below.refl _ _).alloc (Nat.le_refl _) _
                  have HWwy1 := Lib.hid ewy1
                  have HBY := Lib.hid eY
                  clear ewy1 eY
                  have hXy1 := hXp.on hbwy1
                  have hrf := hrefp wy1 hbwy1
                  go_upto_region 27 with fail
                  rw [← HBY.out, ← HWwy1.out]
                  clear hrefp
                  have x0 : wy1.cell? ⟨D, 0, none⟩ = some (.int .i64 kind) := hXy1.cell 0; have x1 : wy1.cell? ⟨D, 1, none⟩ = some (.int .i64 num) := hXy1.cell 1; have x2 : wy1.cell? ⟨D, 2, none⟩ = some (S key) := hXy1.cell 2; have x3 : wy1.cell? ⟨D, 3, none⟩ = some (.slice ap lp.length kp) := hXy1.cell 3; have x4 : wy1.cell? ⟨D, 4, none⟩ = some (.int .i64 st) := hXy1.cell 4; have x5 : wy1.cell? ⟨D, 5, none⟩ = some (.slice af lf.length kf) := hXy1.cell 5; have x6 : wy1.cell? ⟨D, 6, none⟩ = some (S body) := hXy1.cell 6; have x7 : wy1.cell? ⟨D, 7, none⟩ = some (.int .i64 asked) := hXy1.cell 7; have x8 : wy1.cell? ⟨D, 8, none⟩ = some (.int .i64 came) := hXy1.cell 8; have x9 : wy1.cell? ⟨D, 9, none⟩ = some (.slice al ll.length kl) := hXy1.cell 9; have u1 : wy1.cell? ⟨D, 2 + 1, none⟩ = some (.slice ap lp.length kp) := hXy1.cell 3; have u2 : wy1.cell? ⟨D, 2 + 2, none⟩ = some (.int .i64 st) := hXy1.cell 4; have u3 : wy1.cell? ⟨D, 2 + 3, none⟩ = some (.slice af lf.length kf) := hXy1.cell 5; have u4 : wy1.cell? ⟨D, 2 + 4, none⟩ = some (S body) := hXy1.cell 6; have u5 : wy1.cell? ⟨D, 2 + 5, none⟩ = some (.int .i64 asked) := hXy1.cell 7; have u6 : wy1.cell? ⟨D, 2 + 6, none⟩ = some (.int .i64 came) := hXy1.cell 8
                  go_wp2_with fail
                  refine hrf.mono ?_
                  rintro e wq ⟨rfl, last', v', er', l', hTq, hidq, hlo, hhi, -, hkq, hbq⟩
                  have hXq := hkq D _ _ (by decide) (by decide) (by decide) hXy1
                  have hBY' := hkq Y _ _ (by decide) (by decide) (by decide) hBY
                  clear x0 x1 x2 x3 x4 x5 x6 x7 x8 x9 u1 u2 u3 u4 u5 u6 hrf
                  obtain ⟨wy2, ewy2⟩ : ∃ wy2 : World, wy2 = wq.alloc (.cells #[S [], .slice none 0 0, .int .i64 0, .slice none 0 0, S [], .int .i64 0, .int .i64 0] 36) := ⟨_, rfl⟩
                  obtain ⟨Z, eZ⟩ : ∃ Z, Z = wq.heap.size := ⟨_, rfl⟩
                  have hBZ : Blk wy2 Z 36 #[S [], .slice none 0 0, .int .i64 0, .slice none 0 0, S [], .int .i64 0, .int .i64 0] := by rw [ewy2, eZ]; exact Blk.new _ _ _
                  have hbwy2 : Below wq.heap.size wq wy2 := by rw [ewy2]; exact (Below.refl _ _).alloc (Nat.le_refl _) _
                  have HWwy2 := Lib.hid ewy2
                  have HBZ := Lib.hid eZ
                  clear ewy2 eZ
                  have hXy2 := hXq.on hbwy2
                  have hTy2 := hTq.below hbwy2
                  have hBY2 := hBY'.on hbwy2
                  clear hBY hBY'
                  go_upto_region 28 with fail
                  rw [← HBZ.out, ← HWwy2.out]
                  have y0 : wy2.cell? ⟨Y, 0, none⟩ = some (S []) := hBY2.cell 0; have y1 : wy2.cell? ⟨Y, 1, none⟩ = some (.slice none 0 0) := hBY2.cell 1; have y2 : wy2.cell? ⟨Y, 2, none⟩ = some (.int .i64 0) := hBY2.cell 2; have y3 : wy2.cell? ⟨Y, 3, none⟩ = some (.slice none 0 0) := hBY2.cell 3; have y4 : wy2.cell? ⟨Y, 4, none⟩ = some (S []) := hBY2.cell 4; have y5 : wy2.cell? ⟨Y, 5, none⟩ = some (.int .i64 0) := hBY2.cell 5; have y6 : wy2.cell? ⟨Y, 6, none⟩ = some (.int .i64 0) := hBY2.cell 6
                  have z0 : wy2.cell? ⟨Z, 0, none⟩ = some (S []) := hBZ.cell 0; have z1 : wy2.cell? ⟨Z, 1, none⟩ = some (.slice none 0 0) := hBZ.cell 1; have z2 : wy2.cell? ⟨Z, 2, none⟩ = some (.int .i64 0) := hBZ.cell 2; have z3 : wy2.cell? ⟨Z, 3, none⟩ = some (.slice none 0 0) := hBZ.cell 3; have z4 : wy2.cell? ⟨Z, 4, none⟩ = some (S []) := hBZ.cell 4; have z5 : wy2.cell? ⟨Z, 5, none⟩ = some (.int .i64 0) := hBZ.cell 5; have z6 : wy2.cell? ⟨Z, 6, none⟩ = some (.int .i64 0) := hBZ.cell 6
                  have hS := Same_zero wy2
                  simp only [entZ] at hS
                  go_wp2_with fail
                  refine hS.mono ?_
                  rintro e ws ⟨rfl, hbs⟩
                  have hXs := hXy2.on hbs
                  have hTs := hTy2.below hbs
                  clear y0 y1 y2 y3 y4 y5 y6 z0 z1 z2 z3 z4 z5 z6 hS hBY2 hBZ
                  have hbf : Below R w4 ws := ((((hwz.trans hbp).trans (hbwy1.mono (Nat.le_trans hRz (hbp.size)))).trans hbq).trans (hbwy2.mono (Nat.le_of_lt hTq.rlt))).trans (hbs.mono (Nat.le_of_lt hTy2.rlt))
                  go_wp2
                  go_meet
                  exact ⟨last', v', er', l', rfl, hTs, hidq, by omega, by omega, hXs, hbf⟩
                · have hXp := hkp D _ _ (by decide) (by decide) (by decide) hXz
                  clear x0 x1 x2 x3 x4 x5 x6 x7 x8 x9 u1 u2 u3 u4 u5 u6 hFd
                  obtain ⟨vpy, vfy, rfl, o1, o2⟩ := hret
                  obtain ⟨apy, kpy, rfl, -⟩ := (Fs.own o1).form
                  obtain ⟨afy, kfy, rfl, -⟩ := (Fs.own o2).form
                  obtain ⟨nb, nvp, nvf, ⟨nid, nkey, nlp, nst, nlf, nbody, nasked, ncame⟩⟩ := n
                  simp only at o1 o2 hrefp ⊢
                  obtain ⟨wy1, ewy1⟩ : ∃ wy1 : World, wy1 = wp.alloc (.cells #[S nkey, .slice apy nlp.length kpy, .int .i64 nst, .slice afy nlf.length kfy, S nbody, .int .i64 nasked, .int .i64 ncame] 36) := ⟨_, rfl⟩
                  obtain ⟨Y, eY⟩ : ∃ Y, Y = wp.heap.size := ⟨_, rfl⟩
                  have hBY : Blk wy1 Y 36 #[S nkey, .slice apy nlp.length kpy, .int .i64 nst, .slice afy nlf.length kfy, S nbody, .int .i64 nasked, .int .i64 ncame] := by rw [ewy1, eY]; exact Blk.new _ _ _
                  have hbwy1 : Below wp.heap.size wp wy1 := by rw [ewy1]; exact (Below.refl _ _).alloc (Nat.le_refl _) _
                  have HWwy1 := Lib.hid ewy1
                  have HBY := Lib.hid eY
                  clear ewy1 eY
                  have hXy1 := hXp.on hbwy1
                  have hrf := hrefp wy1 hbwy1
                  go_upto_region 27 with fail
                  rw [← HBY.out, ← HWwy1.out]
                  clear hrefp
                  have x0 : wy1.cell? ⟨D, 0, none⟩ = some (.int .i64 kind) := hXy1.cell 0; have x1 : wy1.cell? ⟨D, 1, none⟩ = some (.int .i64 num) := hXy1.cell 1; have x2 : wy1.cell? ⟨D, 2, none⟩ = some (S key) := hXy1.cell 2; have x3 : wy1.cell? ⟨D, 3, none⟩ = some (.slice ap lp.length kp) := hXy1.cell 3; have x4 : wy1.cell? ⟨D, 4, none⟩ = some (.int .i64 st) := hXy1.cell 4; have x5 : wy1.cell? ⟨D, 5, none⟩ = some (.slice af lf.length kf) := hXy1.cell 5; have x6 : wy1.cell? ⟨D, 6, none⟩ = some (S body) := hXy1.cell 6; have x7 : wy1.cell? ⟨D, 7, none⟩ = some (.int .i64 asked) := hXy1.cell 7; have x8 : wy1.cell? ⟨D, 8, none⟩ = some (.int .i64 came) := hXy1.cell 8; have x9 : wy1.cell? ⟨D, 9, none⟩ = some (.slice al ll.length kl) := hXy1.cell 9; have u1 : wy1.cell? ⟨D, 2 + 1, none⟩ = some (.slice ap lp.length kp) := hXy1.cell 3; have u2 : wy1.cell? ⟨D, 2 + 2, none⟩ = some (.int .i64 st) := hXy1.cell 4; have u3 : wy1.cell? ⟨D, 2 + 3, none⟩ = some (.slice af lf.length kf) := hXy1.cell 5; have u4 : wy1.cell? ⟨D, 2 + 4, none⟩ = some (S body) := hXy1.cell 6; have u5 : wy1.cell? ⟨D, 2 + 5, none⟩ = some (.int .i64 asked) := hXy1.cell 7; have u6 : wy1.cell? ⟨D, 2 + 6, none⟩ = some (.int .i64 came) := hXy1.cell 8
                  go_wp2_with fail
                  refine hrf.mono ?_
                  rintro e wq ⟨ev, hex, hef, rfl, last', v', er', l', hTq, hidq, hlo, hhi, -, hkq, hbq⟩
                  have hXq := hkq D _ _ (by decide) (by decide) (by decide) hXy1
                  have hBY' := hkq Y _ _ (by decide) (by decide) (by decide) hBY
                  clear x0 x1 x2 x3 x4 x5 x6 x7 x8 x9 u1 u2 u3 u4 u5 u6 hrf
                  obtain ⟨vp2, vf2, x2'⟩ := ev
                  simp only at hex
                  subst hex
                  obtain ⟨apz, kpz, hz1, -⟩ := hef.1.form
                  obtain ⟨afz, kfz, hz2, -⟩ := hef.2.form
                  simp only at hz1 hz2
                  subst hz1 hz2
                  have o1q := hkq.own (own_below o1 hbwy1) (by decide) (by decide) (by decide)
                  have o2q := hkq.own (own_below o2 hbwy1) (by decide) (by decide) (by decide)
                  have hRq : R ≤ wq.heap.size := Nat.le_of_lt hTq.rlt
                  have hz1 : Fo 53 R wq (.slice apz nlp.length kpz) nlp := hef.1
                  have hz2 : Fo 62 R wq (.slice afz nlf.length kfz) nlf := hef.2
                  simp only [Ev.val]
                  clear hef
                  obtain ⟨wy2, ewy2⟩ : ∃ wy2 : World, wy2 = wq.alloc (.cells #[S nkey, .slice apz nlp.length kpz, .int .i64 nst, .slice afz nlf.length kfz, S nbody, .int .i64 nasked, .int .i64 ncame] 36) := ⟨_, rfl⟩
                  obtain ⟨Z, eZ⟩ : ∃ Z, Z = wq.heap.size := ⟨_, rfl⟩
                  have hBZ : Blk wy2 Z 36 #[S nkey, .slice apz nlp.length kpz, .int .i64 nst, .slice afz nlf.length kfz, S nbody, .int .i64 nasked, .int .i64 ncame] := by rw [ewy2, eZ]; exact Blk.new _ _ _
                  have hbwy2 : Below wq.heap.size wq wy2 := by rw [ewy2]; exact (Below.refl _ _).alloc (Nat.le_refl _) _
                  have HWwy2 := Lib.hid ewy2
                  have HBZ := Lib.hid eZ
                  clear ewy2 eZ
                  have hXy2 := hXq.on hbwy2
                  have hTy2 := hTq.below hbwy2
                  have hBY2 := hBY'.on hbwy2
                  clear hBY hBY'
                  go_upto_region 28 with fail
                  rw [← HBZ.out, ← HWwy2.out]
                  have y0 : wy2.cell? ⟨Y, 0, none⟩ = some (S nkey) := hBY2.cell 0; have y1 : wy2.cell? ⟨Y, 1, none⟩ = some (.slice apy nlp.length kpy) := hBY2.cell 1; have y2 : wy2.cell? ⟨Y, 2, none⟩ = some (.int .i64 nst) := hBY2.cell 2; have y3 : wy2.cell? ⟨Y, 3, none⟩ = some (.slice afy nlf.length kfy) := hBY2.cell 3; have y4 : wy2.cell? ⟨Y, 4, none⟩ = some (S nbody) := hBY2.cell 4; have y5 : wy2.cell? ⟨Y, 5, none⟩ = some (.int .i64 nasked) := hBY2.cell 5; have y6 : wy2.cell? ⟨Y, 6, none⟩ = some (.int .i64 ncame) := hBY2.cell 6
                  have z0 : wy2.cell? ⟨Z, 0, none⟩ = some (S nkey) := hBZ.cell 0; have z1 : wy2.cell? ⟨Z, 1, none⟩ = some (.slice apz nlp.length kpz) := hBZ.cell 1; have z2 : wy2.cell? ⟨Z, 2, none⟩ = some (.int .i64 nst) := hBZ.cell 2; have z3 : wy2.cell? ⟨Z, 3, none⟩ = some (.slice afz nlf.length kfz) := hBZ.cell 3; have z4 : wy2.cell? ⟨Z, 4, none⟩ = some (S nbody) := hBZ.cell 4; have z5 : wy2.cell? ⟨Z, 5, none⟩ = some (.int .i64 nasked) := hBZ.cell 5; have z6 : wy2.cell? ⟨Z, 6, none⟩ = some (.int .i64 ncame) := hBZ.cell 6
                  have hRy2 : R ≤ wy2.heap.size := Nat.le_of_lt hTy2.rlt
                  have hS := refSame_eq ⟨nkey, .slice apy nlp.length kpy, nst, .slice afy nlf.length kfy, nbody, nasked, ncame⟩ (.slice apz nlp.length kpz) (.slice afz nlf.length kfz) nlp nlf wy2 (Fs.own (own_below o1q hbwy2)) (Fs.own (own_below o2q hbwy2)) ((hz1.below hbwy2 hRq).fs hRy2) ((hz2.below hbwy2 hRq).fs hRy2)
                  simp only [En.val] at hS
                  have q1 : (nid != nid) = false := by simp
                  have q2 : (nid == nid) = true := by simp
                  go_wp2_with fail
                  refine hS.mono ?_
                  rintro e ws ⟨rfl, hbs⟩
                  have hXs := hXy2.on hbs
                  have hTs := hTy2.below hbs
                  clear y0 y1 y2 y3 y4 y5 y6 z0 z1 z2 z3 z4 z5 z6 hS hBY2 hBZ
                  have hbf : Below R w4 ws := ((((hwz.trans hbp).trans (hbwy1.mono (Nat.le_trans hRz (hbp.size)))).trans hbq).trans (hbwy2.mono (Nat.le_of_lt hTq.rlt))).trans (hbs.mono (Nat.le_of_lt hTy2.rlt))
                  go_wp2
                  go_meet
                  exact ⟨last', v', er', l', rfl, hTs, hidq, by omega, by omega, hXs, hbf⟩
              · have p1 : (kind == 1) = false := by simp [hk1]
                have p1' : decide (kind = 1) = false := by simp [hk1]
                by_cases hk2 : kind = 2
                · have p2 : (kind == 2) = true := by simp [hk2]
                  have p2' : decide (kind = 2) = true := by simp [hk2]
                  clear hk2
                  
                  obtain ⟨ra, hCal⟩ := two_set (hTz.below (Below.refl _ _).drew) hids num hnum ⟨key, .slice ap lp.length kp, st, .slice af lf.length kf, body, asked, came⟩ lp lf (.inl (Rd.below hpz (Below.refl _ _).drew)) (.inl (Rd.below hfz (Below.refl _ _).drew)) (by show key.length ≤ _; omega) (by show body.length ≤ _; omega) (by omega) (by omega)
                  simp only [En.val] at hCal
                  have q1 : (ra != ra) = false := by simp
                  have q2 : (ra == ra) = true := by simp
                  go_wp2_with fail
                  refine wp_region_held_drew (S := (fun wy => wy.cell? ⟨D, 1, none⟩ = some (.int .i64 num) ∧ wy.cell? ⟨D, 2, none⟩ = some (S key) ∧ wy.cell? ⟨D, 2 + 1, none⟩ = some (.slice ap lp.length kp) ∧ wy.cell? ⟨D, 2 + 2, none⟩ = some (.int .i64 st) ∧ wy.cell? ⟨D, 2 + 3, none⟩ = some (.slice af lf.length kf) ∧ wy.cell? ⟨D, 2 + 4, none⟩ = some (S body) ∧ wy.cell? ⟨D, 2 + 5, none⟩ = some (.int .i64 asked) ∧ wy.cell? ⟨D, 2 + 6, none⟩ = some (.int .i64 came))) (by kernel_rfl) ⟨hXz.cell 1, hXz.cell 2, hXz.cell 3, hXz.cell 4, hXz.cell 5, hXz.cell 6, hXz.cell 7, hXz.cell 8⟩ (fun hHeld => ?_)
                  refine wpAnyH_take (i := 0) (v := ?_) (by rfl) (by kernel_rfl) (by kernel_rfl) (by kernel_rfl) (by exact fun _ _ _ h => h) (Or.inl ⟨by rfl, ?_⟩) hHeld ?_
                  rotate_left
                  · (intro w hSw; (try dsimp only at hSw); go_simp; try with_reducible rfl)
                  simp only [Act.put, List.getElem_toArray, List.getElem_cons_succ, List.getElem_cons_zero, List.setIfInBounds_toArray, List.set_cons_zero, List.set_cons_succ]
                  refine wpAnyH_take (i := 1) (v := ?_) (by rfl) (by kernel_rfl) (by kernel_rfl) (by kernel_rfl) (by exact fun _ _ _ h => h) (Or.inl ⟨by rfl, ?_⟩) hHeld ?_
                  rotate_left
                  · (intro w hSw; (try dsimp only at hSw); go_simp; try with_reducible rfl)
                  simp only [Act.put, List.getElem_toArray, List.getElem_cons_succ, List.getElem_cons_zero, List.setIfInBounds_toArray, List.set_cons_zero, List.set_cons_succ]
                  refine wpAnyH_take (i := 2) (v := ?_) (by rfl) (by kernel_rfl) (by kernel_rfl) (by kernel_rfl) (by exact fun _ _ _ h => h) (Or.inl ⟨by rfl, ?_⟩) hHeld ?_
                  rotate_left
                  · (intro w hSw; (try dsimp only at hSw); go_simp; try with_reducible rfl)
                  simp only [Act.put, List.getElem_toArray, List.getElem_cons_succ, List.getElem_cons_zero, List.setIfInBounds_toArray, List.set_cons_zero, List.set_cons_succ]
                  refine wpAnyH_take (i := 3) (v := ?_) (by rfl) (by kernel_rfl) (by kernel_rfl) (by kernel_rfl) (by exact fun _ _ _ h => h) (Or.inl ⟨by rfl, ?_⟩) hHeld ?_
                  rotate_left
                  · (intro w hSw; (try dsimp only at hSw); go_simp; try with_reducible rfl)
                  simp only [Act.put, List.getElem_toArray, List.getElem_cons_succ, List.getElem_cons_zero, List.setIfInBounds_toArray, List.set_cons_zero, List.set_cons_succ]
                  refine wpAnyH_take (i := 4) (v := ?_) (by rfl) (by kernel_rfl) (by kernel_rfl) (by kernel_rfl) (by exact fun _ _ _ h => h) (Or.inl ⟨by rfl, ?_⟩) hHeld ?_
                  rotate_left
                  · (intro w hSw; (try dsimp only at hSw); go_simp; try with_reducible rfl)
                  simp only [Act.put, List.getElem_toArray, List.getElem_cons_succ, List.getElem_cons_zero, List.setIfInBounds_toArray, List.set_cons_zero, List.set_cons_succ]
                  refine wpAnyH_take (i := 6) (v := ?_) (by rfl) (by kernel_rfl) (by kernel_rfl) (by kernel_rfl) (by exact fun _ _ _ h => h) (Or.inl ⟨by rfl, ?_⟩) hHeld ?_
                  rotate_left
                  · (intro w hSw; (try dsimp only at hSw); go_simp; try with_reducible rfl)
                  simp only [Act.put, List.getElem_toArray, List.getElem_cons_succ, List.getElem_cons_zero, List.setIfInBounds_toArray, List.set_cons_zero, List.set_cons_succ]
                  refine wpAnyH_take (i := 7) (v := ?_) (by rfl) (by kernel_rfl) (by kernel_rfl) (by kernel_rfl) (by exact fun _ _ _ h => h) (Or.inl ⟨by rfl, ?_⟩) hHeld ?_
                  rotate_left
                  · (intro w hSw; (try dsimp only at hSw); go_simp; try with_reducible rfl)
                  simp only [Act.put, List.getElem_toArray, List.getElem_cons_succ, List.getElem_cons_zero, List.setIfInBounds_toArray, List.set_cons_zero, List.set_cons_succ]
                  refine wpAnyH_take (i := 8) (v := ?_) (by rfl) (by kernel_rfl) (by kernel_rfl) (by kernel_rfl) (by exact fun _ _ _ h => h) (Or.inl ⟨by rfl, ?_⟩) hHeld ?_
                  rotate_left
                  · (intro w hSw; (try dsimp only at hSw); go_simp; try with_reducible rfl)
                  simp only [Act.put, List.getElem_toArray, List.getElem_cons_succ, List.getElem_cons_zero, List.setIfInBounds_toArray, List.set_cons_zero, List.set_cons_succ]
                  refine wpAnyH_take (i := 9) (v := ?_) (by rfl) (by kernel_rfl) (by kernel_rfl) (by kernel_rfl) (by exact fun _ _ _ h => h) (Or.inl ⟨by rfl, ?_⟩) hHeld ?_
                  rotate_left
                  · (intro w hSw; (try dsimp only at hSw); go_simp; try with_reducible rfl)
                  simp only [Act.put, List.getElem_toArray, List.getElem_cons_succ, List.getElem_cons_zero, List.setIfInBounds_toArray, List.set_cons_zero, List.set_cons_succ]
                  refine wpAnyH_take (i := 10) (v := ?_) (by rfl) (by kernel_rfl) (by kernel_rfl) (by kernel_rfl) (by exact fun _ _ _ h => h) (Or.inl ⟨by rfl, ?_⟩) hHeld ?_
                  rotate_left
                  · (intro w hSw; (try dsimp only at hSw); go_simp; try with_reducible rfl)
                  simp only [Act.put, List.getElem_toArray, List.getElem_cons_succ, List.getElem_cons_zero, List.setIfInBounds_toArray, List.set_cons_zero, List.set_cons_succ]
                  refine wpAnyH_ready (rs := [5]) (by kernel_rfl) (by simp) ?_
                  refine AllReadyH.cons (by rfl) (fun K hK => ?_) AllReadyH.nil
                  go_simp
                  (with_reducible refine (hCal).mono ?_); rintro e wp ⟨rfl, hkp, hbp, hrefp⟩; have hXp := hkp D _ _ (by decide) (by decide) (by decide) hXz.drew; have hrf := hrefp wp (Below.refl _ _); replace hbp := (Below.refl R wz).drew.trans hbp
                  refine hK.out _ _ ⟨hXp.cell 1, hXp.cell 2, hXp.cell 3, hXp.cell 4, hXp.cell 5, hXp.cell 6, hXp.cell 7, hXp.cell 8⟩ (fun hHeld => ?_)
                  clear hK K
                  try simp only [Act.put, List.getElem_toArray, List.getElem_cons_succ, List.getElem_cons_zero, List.setIfInBounds_toArray, List.set_cons_zero, List.set_cons_succ]
                  refine wpAnyH_ready (rs := [11]) (by kernel_rfl) (by simp) ?_
                  refine AllReadyH.cons (by rfl) (fun K hK => ?_) AllReadyH.nil
                  go_simp
                  (with_reducible refine hrf.mono ?_); rintro e wq ⟨rfl, last', v', er', l', hTq, hidq, hlo, hhi, -, hkq, hbq⟩; have hXq := hkq D _ _ (by decide) (by decide) (by decide) hXp
                  refine hK.out _ _ ⟨hXq.cell 1, hXq.cell 2, hXq.cell 3, hXq.cell 4, hXq.cell 5, hXq.cell 6, hXq.cell 7, hXq.cell 8⟩ (fun hHeld => ?_)
                  clear hK K
                  try simp only [Act.put, List.getElem_toArray, List.getElem_cons_succ, List.getElem_cons_zero, List.setIfInBounds_toArray, List.set_cons_zero, List.set_cons_succ]
                  refine wpAnyH_take (i := 12) (v := ?_) (by rfl) (by kernel_rfl) (by kernel_rfl) (by kernel_rfl) (by exact fun _ _ _ h => h) (Or.inl ⟨by rfl, ?_⟩) hHeld ?_
                  rotate_left
                  · (intro w hSw; (try dsimp only at hSw); go_simp; try with_reducible rfl)
                  simp only [Act.put, List.getElem_toArray, List.getElem_cons_succ, List.getElem_cons_zero, List.setIfInBounds_toArray, List.set_cons_zero, List.set_cons_succ]
                  try simp only [Act.put, List.getElem_toArray, List.getElem_cons_succ, List.getElem_cons_zero, List.setIfInBounds_toArray, List.set_cons_zero, List.set_cons_succ]
                  refine wpAnyH_done (by kernel_rfl) ?_ _
                  replace hbq := (hwz.trans hbp).trans hbq
                  go_wp2
                  go_meet
                  exact ⟨last', v', er', l', rfl, hTq, hidq, by omega, by omega, hXq, hbq⟩
                · have p2 : (kind == 2) = false := by simp [hk2]
                  have p2' : decide (kind = 2) = false := by simp [hk2]
                  
                  obtain ⟨ra, hCal⟩ := two_forget (hTz.below (Below.refl _ _).drew) hids key
                  skip
                  have q1 : (ra != ra) = false := by simp
                  have q2 : (ra == ra) = true := by simp
                  go_wp2_with fail
                  refine wp_region_held_drew (S := (fun wy => wy.cell? ⟨D, 2, none⟩ = some (S key))) (by kernel_rfl) (hXz.cell 2) (fun hHeld => ?_)
                  refine wpAnyH_take (i := 0) (v := ?_) (by rfl) (by kernel_rfl) (by kernel_rfl) (by kernel_rfl) (by exact fun _ _ _ h => h) (Or.inl ⟨by rfl, ?_⟩) hHeld ?_
                  rotate_left
                  · (intro w hSw; (try dsimp only at hSw); go_simp; try with_reducible rfl)
                  simp only [Act.put, List.getElem_toArray, List.getElem_cons_succ, List.getElem_cons_zero, List.setIfInBounds_toArray, List.set_cons_zero, List.set_cons_succ]
                  refine wpAnyH_take (i := 1) (v := ?_) (by rfl) (by kernel_rfl) (by kernel_rfl) (by kernel_rfl) (by exact fun _ _ _ h => h) (Or.inl ⟨by rfl, ?_⟩) hHeld ?_
                  rotate_left
                  · (intro w hSw; (try dsimp only at hSw); go_simp; try with_reducible rfl)
                  simp only [Act.put, List.getElem_toArray, List.getElem_cons_succ, List.getElem_cons_zero, List.setIfInBounds_toArray, List.set_cons_zero, List.set_cons_succ]
                  refine wpAnyH_take (i := 2) (v := ?_) (by rfl) (by kernel_rfl) (by kernel_rfl) (by kernel_rfl) (by exact fun _ _ _ h => h) (Or.inl ⟨by rfl, ?_⟩) hHeld ?_
                  rotate_left
                  · (intro w hSw; (try dsimp only at hSw); go_simp; try with_reducible rfl)
                  simp only [Act.put, List.getElem_toArray, List.getElem_cons_succ, List.getElem_cons_zero, List.setIfInBounds_toArray, List.set_cons_zero, List.set_cons_succ]
                  refine wpAnyH_take (i := 3) (v := ?_) (by rfl) (by kernel_rfl) (by kernel_rfl) (by kernel_rfl) (by exact fun _ _ _ h => h) (Or.inl ⟨by rfl, ?_⟩) hHeld ?_
                  rotate_left
                  · (intro w hSw; (try dsimp only at hSw); go_simp; try with_reducible rfl)
                  simp only [Act.put, List.getElem_toArray, List.getElem_cons_succ, List.getElem_cons_zero, List.setIfInBounds_toArray, List.set_cons_zero, List.set_cons_succ]
                  refine wpAnyH_take (i := 5) (v := ?_) (by rfl) (by kernel_rfl) (by kernel_rfl) (by kernel_rfl) (by exact fun _ _ _ h => h) (Or.inl ⟨by rfl, ?_⟩) hHeld ?_
                  rotate_left
                  · (intro w hSw; (try dsimp only at hSw); go_simp; try with_reducible rfl)
                  simp only [Act.put, List.getElem_toArray, List.getElem_cons_succ, List.getElem_cons_zero, List.setIfInBounds_toArray, List.set_cons_zero, List.set_cons_succ]
                  refine wpAnyH_take (i := 6) (v := ?_) (by rfl) (by kernel_rfl) (by kernel_rfl) (by kernel_rfl) (by exact fun _ _ _ h => h) (Or.inl ⟨by rfl, ?_⟩) hHeld ?_
                  rotate_left
                  · (intro w hSw; (try dsimp only at hSw); go_simp; try with_reducible rfl)
                  simp only [Act.put, List.getElem_toArray, List.getElem_cons_succ, List.getElem_cons_zero, List.setIfInBounds_toArray, List.set_cons_zero, List.set_cons_succ]
                  refine wpAnyH_take (i := 7) (v := ?_) (by rfl) (by kernel_rfl) (by kernel_rfl) (by kernel_rfl) (by exact fun _ _ _ h => h) (Or.inl ⟨by rfl, ?_⟩) hHeld ?_
                  rotate_left
                  · (intro w hSw; (try dsimp only at hSw); go_simp; try with_reducible rfl)
                  simp only [Act.put, List.getElem_toArray, List.getElem_cons_succ, List.getElem_cons_zero, List.setIfInBounds_toArray, List.set_cons_zero, List.set_cons_succ]
                  refine wpAnyH_take (i := 8) (v := ?_) (by rfl) (by kernel_rfl) (by kernel_rfl) (by kernel_rfl) (by exact fun _ _ _ h => h) (Or.inl ⟨by rfl, ?_⟩) hHeld ?_
                  rotate_left
                  · (intro w hSw; (try dsimp only at hSw); go_simp; try with_reducible rfl)
                  simp only [Act.put, List.getElem_toArray, List.getElem_cons_succ, List.getElem_cons_zero, List.setIfInBounds_toArray, List.set_cons_zero, List.set_cons_succ]
                  refine wpAnyH_ready (rs := [4]) (by kernel_rfl) (by simp) ?_
                  refine AllReadyH.cons (by rfl) (fun K hK => ?_) AllReadyH.nil
                  go_simp
                  (with_reducible refine (hCal).mono ?_); rintro e wp ⟨rfl, hkp, hbp, hrefp⟩; have hXp := hkp D _ _ (by decide) (by decide) (by decide) hXz.drew; have hrf := hrefp wp (Below.refl _ _); replace hbp := (Below.refl R wz).drew.trans hbp
                  refine hK.out _ _ (hXp.cell 2) (fun hHeld => ?_)
                  clear hK K
                  try simp only [Act.put, List.getElem_toArray, List.getElem_cons_succ, List.getElem_cons_zero, List.setIfInBounds_toArray, List.set_cons_zero, List.set_cons_succ]
                  refine wpAnyH_ready (rs := [9]) (by kernel_rfl) (by simp) ?_
                  refine AllReadyH.cons (by rfl) (fun K hK => ?_) AllReadyH.nil
                  go_simp
                  (with_reducible refine hrf.mono ?_); rintro e wq ⟨rfl, last', v', er', l', hTq, hidq, hlo, hhi, -, hkq, hbq⟩; have hXq := hkq D _ _ (by decide) (by decide) (by decide) hXp
                  refine hK.out _ _ (hXq.cell 2) (fun hHeld => ?_)
                  clear hK K
                  try simp only [Act.put, List.getElem_toArray, List.getElem_cons_succ, List.getElem_cons_zero, List.setIfInBounds_toArray, List.set_cons_zero, List.set_cons_succ]
                  refine wpAnyH_take (i := 10) (v := ?_) (by rfl) (by kernel_rfl) (by kernel_rfl) (by kernel_rfl) (by exact fun _ _ _ h => h) (Or.inl ⟨by rfl, ?_⟩) hHeld ?_
                  rotate_left
                  · (intro w hSw; (try dsimp only at hSw); go_simp; try with_reducible rfl)
                  simp only [Act.put, List.getElem_toArray, List.getElem_cons_succ, List.getElem_cons_zero, List.setIfInBounds_toArray, List.set_cons_zero, List.set_cons_succ]
                  try simp only [Act.put, List.getElem_toArray, List.getElem_cons_succ, List.getElem_cons_zero, List.setIfInBounds_toArray, List.set_cons_zero, List.set_cons_succ]
                  refine wpAnyH_done (by kernel_rfl) ?_ _
                  replace hbq := (hwz.trans hbp).trans hbq
                  go_wp2
                  go_meet
                  exact ⟨last', v', er', l', rfl, hTq, hidq, by omega, by omega, hXq, hbq⟩
          case rest =>
            obtain ⟨last2, v2, er2, l2, rfl, hT2, hid2, hlo2, hhi2, hX2, hb2w⟩ := hcut
            have hRc : R ≤ wc.heap.size := Nat.le_of_lt hT2.rlt
            clear hTz hXz hpz hfz hlz hwz k0
            have x0 : wc.cell? ⟨D, 0, none⟩ = some (.int .i64 kind) := hX2.cell 0; have x1 : wc.cell? ⟨D, 1, none⟩ = some (.int .i64 num) := hX2.cell 1; have x2 : wc.cell? ⟨D, 2, none⟩ = some (S key) := hX2.cell 2; have x3 : wc.cell? ⟨D, 3, none⟩ = some (.slice ap lp.length kp) := hX2.cell 3; have x4 : wc.cell? ⟨D, 4, none⟩ = some (.int .i64 st) := hX2.cell 4; have x5 : wc.cell? ⟨D, 5, none⟩ = some (.slice af lf.length kf) := hX2.cell 5; have x6 : wc.cell? ⟨D, 6, none⟩ = some (S body) := hX2.cell 6; have x7 : wc.cell? ⟨D, 7, none⟩ = some (.int .i64 asked) := hX2.cell 7; have x8 : wc.cell? ⟨D, 8, none⟩ = some (.int .i64 came) := hX2.cell 8; have x9 : wc.cell? ⟨D, 9, none⟩ = some (.slice al ll.length kl) := hX2.cell 9; have u1 : wc.cell? ⟨D, 2 + 1, none⟩ = some (.slice ap lp.length kp) := hX2.cell 3; have u2 : wc.cell? ⟨D, 2 + 2, none⟩ = some (.int .i64 st) := hX2.cell 4; have u3 : wc.cell? ⟨D, 2 + 3, none⟩ = some (.slice af lf.length kf) := hX2.cell 5; have u4 : wc.cell? ⟨D, 2 + 4, none⟩ = some (S body) := hX2.cell 6; have u5 : wc.cell? ⟨D, 2 + 5, none⟩ = some (.int .i64 asked) := hX2.cell 7; have u6 : wc.cell? ⟨D, 2 + 6, none⟩ = some (.int .i64 came) := hX2.cell 8
            have hFd := two_at hT2 num hnum
            go_wp2_with fail
            refine hFd.mono ?_
            rintro e wp ⟨hbp, (⟨rfl, hrefp⟩ | ⟨n, v1, hnl, rfl, hret, hrefp⟩)⟩
            · simp only [entZ]
              have hkp := Keeps.below hbp
              have hTp := hT2.below hbp
              have hXp := hkp D _ _ (by decide) (by decide) (by decide) hX2
              clear x0 x1 x2 x3 x4 x5 x6 x7 x8 x9 u1 u2 u3 u4 u5 u6 hFd
              obtain ⟨wy1, ewy1⟩ : ∃ wy1 : World, wy1 = wp.alloc (.cells #[S [], .slice none 0 0, .int .i64 0, .slice none 0 0, S [], .int .i64 0, .int .i64 0] 36) := ⟨_, rfl⟩
              obtain ⟨Y, eY⟩ : ∃ Y, Y = wp.heap.size := ⟨_, rfl⟩
              have hBY : Blk wy1 Y 36 #[S [], .slice none 0 0, .int .i64 0, .slice none 0 0, S [], .int .i64 0, .int .i64 0] := by rw [ewy1, eY]; exact Blk.new _ _ _
              have hbwy1 : Below wp.heap.size wp wy1 := by rw [ewy1]; exact (Below.refl _ _).alloc (Nat.le_refl _) _
              have HWwy1 := Lib.hid ewy1
              have HBY := Lib.hid eY
              clear ewy1 eY
              have hXy1 := hXp.on hbwy1
              have hrf := hrefp wy1 hbwy1
              go_upto_region 34 with fail
              rw [← HBY.out, ← HWwy1.out]
              clear hrefp
              have x0 : wy1.cell? ⟨D, 0, none⟩ = some (.int .i64 kind) := hXy1.cell 0; have x1 : wy1.cell? ⟨D, 1, none⟩ = some (.int .i64 num) := hXy1.cell 1; have x2 : wy1.cell? ⟨D, 2, none⟩ = some (S key) := hXy1.cell 2; have x3 : wy1.cell? ⟨D, 3, none⟩ = some (.slice ap lp.length kp) := hXy1.cell 3; have x4 : wy1.cell? ⟨D, 4, none⟩ = some (.int .i64 st) := hXy1.cell 4; have x5 : wy1.cell? ⟨D, 5, none⟩ = some (.slice af lf.length kf) := hXy1.cell 5; have x6 : wy1.cell? ⟨D, 6, none⟩ = some (S body) := hXy1.cell 6; have x7 : wy1.cell? ⟨D, 7, none⟩ = some (.int .i64 asked) := hXy1.cell 7; have x8 : wy1.cell? ⟨D, 8, none⟩ = some (.int .i64 came) := hXy1.cell 8; have x9 : wy1.cell? ⟨D, 9, none⟩ = some (.slice al ll.length kl) := hXy1.cell 9; have u1 : wy1.cell? ⟨D, 2 + 1, none⟩ = some (.slice ap lp.length kp) := hXy1.cell 3; have u2 : wy1.cell? ⟨D, 2 + 2, none⟩ = some (.int .i64 st) := hXy1.cell 4; have u3 : wy1.cell? ⟨D, 2 + 3, none⟩ = some (.slice af lf.length kf) := hXy1.cell 5; have u4 : wy1.cell? ⟨D, 2 + 4, none⟩ = some (S body) := hXy1.cell 6; have u5 : wy1.cell? ⟨D, 2 + 5, none⟩ = some (.int .i64 asked) := hXy1.cell 7; have u6 : wy1.cell? ⟨D, 2 + 6, none⟩ = some (.int .i64 came) := hXy1.cell 8
              go_wp2_with fail
              refine hrf.mono ?_
              rintro e wq ⟨rfl, hbq⟩
              have hkq := Keeps.below hbq
              have hTq := (hTp.below hbwy1).below hbq
              have hXq := hkq D _ _ (by decide) (by decide) (by decide) hXy1
              have hBY' := hkq Y _ _ (by decide) (by decide) (by decide) hBY
              clear x0 x1 x2 x3 x4 x5 x6 x7 x8 x9 u1 u2 u3 u4 u5 u6 hrf
              obtain ⟨wy2, ewy2⟩ : ∃ wy2 : World, wy2 = wq.alloc (.cells #[S [], .slice none 0 0, .int .i64 0, .slice none 0 0, S [], .int .i64 0, .int .i64 0] 36) := ⟨_, rfl⟩
              obtain ⟨Z, eZ⟩ : ∃ Z, Z = wq.heap.size := ⟨_, rfl⟩
              have hBZ : Blk wy2 Z 36 #[S [], .slice none 0 0, .int .i64 0, .slice none 0 0, S [], .int .i64 0, .int .i64 0] := by rw [ewy2, eZ]; exact Blk.new _ _ _
              have hbwy2 : Below wq.heap.size wq wy2 := by rw [ewy2]; exact (Below.refl _ _).alloc (Nat.le_refl _) _
              have HWwy2 := Lib.hid ewy2
              have HBZ := Lib.hid eZ
              clear ewy2 eZ
              have hXy2 := hXq.on hbwy2
              have hTy2 := hTq.below hbwy2
              have hBY2 := hBY'.on hbwy2
              clear hBY hBY'
              go_upto_region 35 with fail
              rw [← HBZ.out, ← HWwy2.out]
              have y0 : wy2.cell? ⟨Y, 0, none⟩ = some (S []) := hBY2.cell 0; have y1 : wy2.cell? ⟨Y, 1, none⟩ = some (.slice none 0 0) := hBY2.cell 1; have y2 : wy2.cell? ⟨Y, 2, none⟩ = some (.int .i64 0) := hBY2.cell 2; have y3 : wy2.cell? ⟨Y, 3, none⟩ = some (.slice none 0 0) := hBY2.cell 3; have y4 : wy2.cell? ⟨Y, 4, none⟩ = some (S []) := hBY2.cell 4; have y5 : wy2.cell? ⟨Y, 5, none⟩ = some (.int .i64 0) := hBY2.cell 5; have y6 : wy2.cell? ⟨Y, 6, none⟩ = some (.int .i64 0) := hBY2.cell 6
              have z0 : wy2.cell? ⟨Z, 0, none⟩ = some (S []) := hBZ.cell 0; have z1 : wy2.cell? ⟨Z, 1, none⟩ = some (.slice none 0 0) := hBZ.cell 1; have z2 : wy2.cell? ⟨Z, 2, none⟩ = some (.int .i64 0) := hBZ.cell 2; have z3 : wy2.cell? ⟨Z, 3, none⟩ = some (.slice none 0 0) := hBZ.cell 3; have z4 : wy2.cell? ⟨Z, 4, none⟩ = some (S []) := hBZ.cell 4; have z5 : wy2.cell? ⟨Z, 5, none⟩ = some (.int .i64 0) := hBZ.cell 5; have z6 : wy2.cell? ⟨Z, 6, none⟩ = some (.int .i64 0) := hBZ.cell 6
              have hS := Same_zero wy2
              simp only [entZ] at hS
              go_wp2_with fail
              refine hS.mono ?_
              rintro e ws ⟨rfl, hbs⟩
              have hXs := hXy2.on hbs
              have hTs := hTy2.below hbs
              clear y0 y1 y2 y3 y4 y5 y6 z0 z1 z2 z3 z4 z5 z6 hS hBY2 hBZ
              have hbf : Below R w4 ws := ((((hb2w.trans (hbp.mono hRc)).trans (hbwy1.mono (Nat.le_trans hRc hbp.size))).trans (hbq.mono (Nat.le_trans hRc (Nat.le_trans hbp.size hbwy1.size)))).trans (hbwy2.mono (Nat.le_of_lt hTq.rlt))).trans (hbs.mono (Nat.le_of_lt hTy2.rlt))
              have hSm := same19_any hTs
              go_wp2_with fail
              refine hSm.mono ?_
              rintro e wt ⟨rfl, hbt⟩
              have hTt := hTs.below hbt
              have hbt' : Below R w4 wt := hbf.trans (hbt.mono (Nat.le_of_lt hTs.rlt))
              clear hSm
              go_wp2
              go_roundw
              case rel => exact ⟨j + 1, last2, v2, er2, l2, by go_num, by omega, by omega, hTt, hid2, by omega, by omega, hbt'⟩
              case measure => (first | (simp [intOf]; done) | (simp [intOf]; omega))
            · have hkp := Keeps.below hbp
              have hTp := hT2.below hbp
              have hXp := hkp D _ _ (by decide) (by decide) (by decide) hX2
              clear x0 x1 x2 x3 x4 x5 x6 x7 x8 x9 u1 u2 u3 u4 u5 u6 hFd
              obtain ⟨vpy, vfy, rfl, o1, o2⟩ := hret
              obtain ⟨apy, kpy, rfl, -⟩ := (Fs.own o1).form
              obtain ⟨afy, kfy, rfl, -⟩ := (Fs.own o2).form
              obtain ⟨nb, nvp, nvf, ⟨nid, nkey, nlp, nst, nlf, nbody, nasked, ncame⟩⟩ := n
              simp only at o1 o2 hrefp ⊢
              obtain ⟨wy1, ewy1⟩ : ∃ wy1 : World, wy1 = wp.alloc (.cells #[S nkey, .slice apy nlp.length kpy, .int .i64 nst, .slice afy nlf.length kfy, S nbody, .int .i64 nasked, .int .i64 ncame] 36) := ⟨_, rfl⟩
              obtain ⟨Y, eY⟩ : ∃ Y, Y = wp.heap.size := ⟨_, rfl⟩
              have hBY : Blk wy1 Y 36 #[S nkey, .slice apy nlp.length kpy, .int .i64 nst, .slice afy nlf.length kfy, S nbody, .int .i64 nasked, .int .i64 ncame] := by rw [ewy1, eY]; exact Blk.new _ _ _
              have hbwy1 : Below wp.heap.size wp wy1 := by rw [ewy1]; exact (Below.refl _ _).alloc (Nat.le_refl _) _
              have HWwy1 := Lib.hid ewy1
              have HBY := Lib.hid eY
              clear ewy1 eY
              have hXy1 := hXp.on hbwy1
              have hrf := hrefp wy1 hbwy1
              go_upto_region 34 with fail
              rw [← HBY.out, ← HWwy1.out]
              clear hrefp
              have x0 : wy1.cell? ⟨D, 0, none⟩ = some (.int .i64 kind) := hXy1.cell 0; have x1 : wy1.cell? ⟨D, 1, none⟩ = some (.int .i64 num) := hXy1.cell 1; have x2 : wy1.cell? ⟨D, 2, none⟩ = some (S key) := hXy1.cell 2; have x3 : wy1.cell? ⟨D, 3, none⟩ = some (.slice ap lp.length kp) := hXy1.cell 3; have x4 : wy1.cell? ⟨D, 4, none⟩ = some (.int .i64 st) := hXy1.cell 4; have x5 : wy1.cell? ⟨D, 5, none⟩ = some (.slice af lf.length kf) := hXy1.cell 5; have x6 : wy1.cell? ⟨D, 6, none⟩ = some (S body) := hXy1.cell 6; have x7 : wy1.cell? ⟨D, 7, none⟩ = some (.int .i64 asked) := hXy1.cell 7; have x8 : wy1.cell? ⟨D, 8, none⟩ = some (.int .i64 came) := hXy1.cell 8; have x9 : wy1.cell? ⟨D, 9, none⟩ = some (.slice al ll.length kl) := hXy1.cell 9; have u1 : wy1.cell? ⟨D, 2 + 1, none⟩ = some (.slice ap lp.length kp) := hXy1.cell 3; have u2 : wy1.cell? ⟨D, 2 + 2, none⟩ = some (.int .i64 st) := hXy1.cell 4; have u3 : wy1.cell? ⟨D, 2 + 3, none⟩ = some (.slice af lf.length kf) := hXy1.cell 5; have u4 : wy1.cell? ⟨D, 2 + 4, none⟩ = some (S body) := hXy1.cell 6; have u5 : wy1.cell? ⟨D, 2 + 5, none⟩ = some (.int .i64 asked) := hXy1.cell 7; have u6 : wy1.cell? ⟨D, 2 + 6, none⟩ = some (.int .i64 came) := hXy1.cell 8
              go_wp2_with fail
              refine hrf.mono ?_
              rintro e wq ⟨ev, hex, hef, rfl, hbq⟩
              have hkq := Keeps.below hbq
              have hTq := (hTp.below hbwy1).below hbq
              have hXq := hkq D _ _ (by decide) (by decide) (by decide) hXy1
              have hBY' := hkq Y _ _ (by decide) (by decide) (by decide) hBY
              clear x0 x1 x2 x3 x4 x5 x6 x7 x8 x9 u1 u2 u3 u4 u5 u6 hrf
              obtain ⟨vp2, vf2, x2'⟩ := ev
              simp only at hex
              subst hex
              obtain ⟨apz, kpz, hz1, -⟩ := hef.1.form
              obtain ⟨afz, kfz, hz2, -⟩ := hef.2.form
              simp only at hz1 hz2
              subst hz1 hz2
              have o1q := hkq.own (own_below o1 hbwy1) (by decide) (by decide) (by decide)
              have o2q := hkq.own (own_below o2 hbwy1) (by decide) (by decide) (by decide)
              have hRq : R ≤ wq.heap.size := Nat.le_of_lt hTq.rlt
              have hz1 : Fo 53 R wq (.slice apz nlp.length kpz) nlp := hef.1
              have hz2 : Fo 62 R wq (.slice afz nlf.length kfz) nlf := hef.2
              simp only [Ev.val]
              clear hef
              obtain ⟨wy2, ewy2⟩ : ∃ wy2 : World, wy2 = wq.alloc (.cells #[S nkey, .slice apz nlp.length kpz, .int .i64 nst, .slice afz nlf.length kfz, S nbody, .int .i64 nasked, .int .i64 ncame] 36) := ⟨_, rfl⟩
              obtain ⟨Z, eZ⟩ : ∃ Z, Z = wq.heap.size := ⟨_, rfl⟩
              have hBZ : Blk wy2 Z 36 #[S nkey, .slice apz nlp.length kpz, .int .i64 nst, .slice afz nlf.length kfz, S nbody, .int .i64 nasked, .int .i64 ncame] := by rw [ewy2, eZ]; exact Blk.new _ _ _
              have hbwy2 : Below wq.heap.size wq wy2 := by rw [ewy2]; exact (Below.refl _ _).alloc (Nat.le_refl _) _
              have HWwy2 := Lib.hid ewy2
              have HBZ := Lib.hid eZ
              clear ewy2 eZ
              have hXy2 := hXq.on hbwy2
              have hTy2 := hTq.below hbwy2
              have hBY2 := hBY'.on hbwy2
              clear hBY hBY'
              go_upto_region 35 with fail
              rw [← HBZ.out, ← HWwy2.out]
              have y0 : wy2.cell? ⟨Y, 0, none⟩ = some (S nkey) := hBY2.cell 0; have y1 : wy2.cell? ⟨Y, 1, none⟩ = some (.slice apy nlp.length kpy) := hBY2.cell 1; have y2 : wy2.cell? ⟨Y, 2, none⟩ = some (.int .i64 nst) := hBY2.cell 2; have y3 : wy2.cell? ⟨Y, 3, none⟩ = some (.slice afy nlf.length kfy) := hBY2.cell 3; have y4 : wy2.cell? ⟨Y, 4, none⟩ = some (S nbody) := hBY2.cell 4; have y5 : wy2.cell? ⟨Y, 5, none⟩ = some (.int .i64 nasked) := hBY2.cell 5; have y6 : wy2.cell? ⟨Y, 6, none⟩ = some (.int .i64 ncame) := hBY2.cell 6
              have z0 : wy2.cell? ⟨Z, 0, none⟩ = some (S nkey) := hBZ.cell 0; have z1 : wy2.cell? ⟨Z, 1, none⟩ = some (.slice apz nlp.length kpz) := hBZ.cell 1; have z2 : wy2.cell? ⟨Z, 2, none⟩ = some (.int .i64 nst) := hBZ.cell 2; have z3 : wy2.cell? ⟨Z, 3, none⟩ = some (.slice afz nlf.length kfz) := hBZ.cell 3; have z4 : wy2.cell? ⟨Z, 4, none⟩ = some (S nbody) := hBZ.cell 4; have z5 : wy2.cell? ⟨Z, 5, none⟩ = some (.int .i64 nasked) := hBZ.cell 5; have z6 : wy2.cell? ⟨Z, 6, none⟩ = some (.int .i64 ncame) := hBZ.cell 6
              have hRy2 : R ≤ wy2.heap.size := Nat.le_of_lt hTy2.rlt
              have hS := refSame_eq ⟨nkey, .slice apy nlp.length kpy, nst, .slice afy nlf.length kfy, nbody, nasked, ncame⟩ (.slice apz nlp.length kpz) (.slice afz nlf.length kfz) nlp nlf wy2 (Fs.own (own_below o1q hbwy2)) (Fs.own (own_below o2q hbwy2)) ((hz1.below hbwy2 hRq).fs hRy2) ((hz2.below hbwy2 hRq).fs hRy2)
              simp only [En.val] at hS
              go_wp2_with fail
              refine hS.mono ?_
              rintro e ws ⟨rfl, hbs⟩
              have hXs := hXy2.on hbs
              have hTs := hTy2.below hbs
              clear y0 y1 y2 y3 y4 y5 y6 z0 z1 z2 z3 z4 z5 z6 hS hBY2 hBZ
              have hbf : Below R w4 ws := ((((hb2w.trans (hbp.mono hRc)).trans (hbwy1.mono (Nat.le_trans hRc hbp.size))).trans (hbq.mono (Nat.le_trans hRc (Nat.le_trans hbp.size hbwy1.size)))).trans (hbwy2.mono (Nat.le_of_lt hTq.rlt))).trans (hbs.mono (Nat.le_of_lt hTy2.rlt))
              have hSm := same19_any hTs
              go_wp2_with fail
              refine hSm.mono ?_
              rintro e wt ⟨rfl, hbt⟩
              have hTt := hTs.below hbt
              have hbt' : Below R w4 wt := hbf.trans (hbt.mono (Nat.le_of_lt hTs.rlt))
              clear hSm
              go_wp2
              go_roundw
              case rel => exact ⟨j + 1, last2, v2, er2, l2, by go_num, by omega, by omega, hTt, hid2, by omega, by omega, hbt'⟩
              case measure => (first | (simp [intOf]; done) | (simp [intOf]; omega))
        · obtain rfl : j = 60 := by omega
          go_wp2
          go_ret
          exact ⟨rfl, hwr⟩
      · obtain rfl : j = L.length := by omega
        go_wp2
        go_ret
        exact ⟨rfl, hwr⟩
  · have hbad : most < 0 ∨ 1048576 < most := by omega
    have HB := New_bad most hbad w2
    go_wp2_with fail
    refine HB.mono ?_
    rintro e w3 ⟨rfl, hb3⟩
    have hw3 := Bl.tr hw2 hb3
    rcases hbad with hb | hb
    · have t1 : decide (most < 0) = true := by simpa using hb
      go_wp2
      go_ret
      exact ⟨rfl, hw3⟩
    · have t1 : decide (most < 0) = false := by simp; omega
      have t2 : decide (1048576 < most) = true := by simpa using hb
      go_wp2
      go_ret
      exact ⟨rfl, hw3⟩
end Go.Proofs.YtnflihjgbkocnaaDoor
