/- Parts of the proof of DealLacks_holds: the texts Law21c. -/
import Derived.Deep.DeepCutAuto
import Derived.Test.YtahapblgmehngaaGreatDoorC44
import Derived.Test.YtahapblgmehngaaGreatDoorC45
import Derived.Test.YtahapblgmehngaaGreatDoorC46
set_option linter.unusedSimpArgs false
set_option linter.unusedVariables false
set_option linter.unnecessarySimpa false
namespace Go.Proofs.YtahapblgmehngaaGreatDoor
open Go.RowKit Go.Dr

/-- What is laid: both shelves. -/
def RetL (L : List Kv) (w : World) (e : Ending) (w' : World) : Prop :=
  ∃ (r : Nat) (last : Int) (v : Value) (er : List Ev) (l : List Nd), e = .returned (.tuple #[Ptr (w.heap.size + 2), Ptr r, .bool true]) ∧ Two w' w.heap.size r 20000 last v er l ∧ (∀ n ∈ l, n.x.id ≤ last) ∧ 0 ≤ last ∧ last ≤ 20 ∧ Laid21 L (min L.length 20) l ∧ Below w.heap.size w w'
set_option maxRecDepth 100000 in
set_option maxHeartbeats 16000000 in
theorem lay21_any (L : List Kv) (vs : Value) (w : World) (hL : Ks w.heap.size w vs L) (hs : ∀ k ∈ L.take 20, SmallK k) :
    Calls Tryz.prog 10 #[vs] w (RetL L w) := by
  obtain ⟨pa, pc, rfl, hm⟩ := hL.form
  have HS := Lib.hid hs
  clear hs
  have HNw := New_any 20000 (by omega) (by omega) w
  obtain ⟨PO, ePO⟩ : ∃ PO, PO = RetL L w := ⟨_, rfl⟩
  rw [← ePO]
  have HPO := Lib.hid ePO
  clear ePO
  go_enter Tryz.func10, Tryz.ntmps10
  go_wp2_with fail
  refine HNw.mono ?_
  rintro e w1 ⟨rfl, hb1, n1, n2, n3⟩
  have hs1 : Sh w.heap.size w.heap.size w1 (w.heap.size + 2) w.heap.size (w.heap.size + 1) 20000 0 [] := sh_new n1 n2 n3 (Nat.le_refl _) (by omega) (by omega)
  have HFIN : Hid (∀ (W : World) (r : Nat) (last : Int) (v : Value) (er : List Ev) (l : List Nd), Two W w.heap.size r 20000 last v er l → (∀ n ∈ l, n.x.id ≤ last) → 0 ≤ last → last ≤ 20 → Laid21 L (min L.length 20) l → Below w.heap.size w W → PO (.returned (.tuple #[Ptr (w.heap.size + 2), Ptr r, .bool true])) W) := fun W r last v er l h1 h2 h3 h4 h5 h6 => by
    rw [HPO.out]
    exact ⟨r, last, v, er, l, rfl, h1, h2, h3, h4, h5, h6⟩
  obtain ⟨R, eR⟩ : ∃ R, R = w.heap.size := ⟨_, rfl⟩
  rw [← eR] at hs1 hb1 hL HFIN
  simp only [← eR]
  have hL1 := hL.below hb1
  have hR1 : R < w1.heap.size := hs1.rlt
  obtain ⟨w4, ew4⟩ : ∃ w4 : World, w4 = w1.alloc (.cells #[.int .i64 20000, .int .i64 0, .slice none 0 0] 70) := ⟨_, rfl⟩
  obtain ⟨r, er⟩ : ∃ r, r = w1.heap.size := ⟨_, rfl⟩
  have hBr : Blk w4 r 70 #[.int .i64 20000, .int .i64 0, .slice none 0 0] := by rw [ew4, er]; exact Blk.new _ _ _
  have hbw4 : Below w1.heap.size w1 w4 := by rw [ew4]; exact (Below.refl _ _).alloc (Nat.le_refl _) _
  have HWw4 := Lib.hid ew4
  have HBr := Lib.hid er
  clear ew4 er
  have hT4 : Two w4 R r 20000 0 (.slice none 0 0) [] [] := ⟨hs1.below hbw4, ⟨hBr, World.ownsRow_nil _ _ _ _, by simp, by rw [HBr.out]; omega, by simp, by omega⟩, rfl⟩
  have hw4 : Below R w w4 := hb1.trans (hbw4.mono (by omega))
  have hL4 := hL1.below (hbw4.mono (by omega))
  have hR4 : R ≤ w4.heap.size := Nat.le_of_lt hT4.rlt
  have HR := Lib.hid eR
  clear n1 n2 n3 eR hL hL1 hb1 hbw4 hs1 HNw hR1 hBr
  go_upto_region 3 with fail
  rw [← HBr.out, ← HWw4.out]
  clear HBr HWw4
  go_wp2
  go_loopw [8] (fun i wr => ∃ (j : Nat) (last : Int) (v : Value) (er : List Ev) (l : List Nd), i = .int .i64 j ∧ j ≤ L.length ∧ j ≤ 20 ∧ Two wr R r 20000 last v er l ∧ (∀ n ∈ l, n.x.id ≤ last) ∧ 0 ≤ last ∧ last ≤ (j : Int) ∧ Laid21 L j l ∧ Below R w4 wr) (fun i _ => L.length - (intOf i).toNat)
  case atStart => exact ⟨0, 0, _, [], [], rfl, Nat.zero_le _, by omega, hT4, by simp, by omega, by omega, Laid21.nil L, Below.refl _ _⟩
  case round =>
    obtain ⟨j, last, v, er, l, rfl, hj, hj20, hT, hids, hla, hla2, hld, hbr⟩ := hrel
    obtain ⟨wo, rfl⟩ : ∃ wo : World, wo = wr := ⟨_, rfl⟩
    have hLr := hL4.below hbr
    have hwr : Below R w wo := hw4.trans hbr
    have HLD := Lib.hid hld
    have HIDS := Lib.hid hids
    clear hld hids
    by_cases hlt : j < L.length
    · by_cases h20 : j < 20
      · obtain ⟨b, off, rfl, hbb, c0, c1, c2, c3, c4, c5, c6, c7, c8, c9⟩ := hLr.at j hlt
        have hkf := hLr.2 L[j] (List.getElem_mem hlt)
        have hks := HS.out L[j] (List.mem_take_iff_getElem.2 ⟨j, by omega, rfl⟩)
        have HSK : Hid (kvKept L[j] = false → ∀ l, Laid21 L j l → Laid21 L (j + 1) l) := fun h l hl => hl.skip hlt h
        have HPT : Hid (kvKept L[j] = true → ∀ (l l' : List Nd) (q : En) (lp lf : List F), Laid21 L j l → (∀ id, It.of id q lp lf = kvIt L[j] id) → Laid 20000 l q lp lf l' → Laid21 L (j + 1) l') := fun h l l' q lp lf hl hq hl' => hl.put hlt h q lp lf hq hl'
        obtain ⟨x, ex⟩ : ∃ x, x = L[j] := ⟨_, rfl⟩
        rw [← ex] at c0 c1 c2 c3 c4 c5 c6 c7 c8 c9 hkf hks HSK HPT
        clear ex
        obtain ⟨⟨km, ks, ka, kp, kv⟩, kst, kvf, kbody, kas, kca, klr, klf⟩ := x
        obtain ⟨a4, n4, hv4, -⟩ := hkf.1.form
        obtain ⟨a6, n6, hv6, -⟩ := hkf.2.form
        simp only at c0 c1 c2 c3 c4 c5 c6 c7 c8 c9 hv4 hv6
        subst hv4 hv6
        have hf4 : Fs R wo (.slice a4 klr.length n4) klr := hkf.1
        have hf6 : Fs R wo (.slice a6 klf.length n6) klf := hkf.2
        have r1 : fsum klr ≤ 16384 := hks.lr
        have r2 : fsum klf ≤ 16384 := hks.lf
        have r3 : kbody.length ≤ 10000 := hks.body
        have r4 : kp.length + ka.length + ks.length ≤ 1000 := hks.path
        have r5 := fsum_pickOf r1 r2
        have r6 := fsum_strip klf
        have r7 : (keyR ⟨km, ks, ka, kp, .slice a4 klr.length n4⟩).length ≤ 1099511627776 := by simp [keyR]; omega
        obtain ⟨wx, ewx⟩ : ∃ wx : World, wx = wo.alloc (.cells #[S km, S ks, S ka, S kp, .slice a4 klr.length n4, .int .i64 kst, .slice a6 klf.length n6, S kbody, .int .i64 kas, .int .i64 kca] 48) := ⟨_, rfl⟩
        obtain ⟨D, eD⟩ : ∃ D, D = wo.heap.size := ⟨_, rfl⟩
        have hBD : Blk wx D 48 #[S km, S ks, S ka, S kp, .slice a4 klr.length n4, .int .i64 kst, .slice a6 klf.length n6, S kbody, .int .i64 kas, .int .i64 kca] := by rw [ewx, eD]; exact Blk.new _ _ _
        have hbwx : Below wo.heap.size wo wx := by rw [ewx]; exact (Below.refl _ _).alloc (Nat.le_refl _) _
        have HWwx := Lib.hid ewx
        have HBD := Lib.hid eD
        clear ewx eD
        have hRo : R ≤ wo.heap.size := Nat.le_of_lt hT.rlt
        have hTx := hT.below hbwx
        have hf4x := hf4.below (hbwx.mono hRo)
        have hf6x := hf6.below (hbwx.mono hRo)
        have hRx : R ≤ wx.heap.size := Nat.le_of_lt hTx.rlt
        have hwx : Below R w4 wx := hbr.trans (hbwx.mono hRo)
        have hK1 := Keep_any ⟨km, ks, ka, kp, .slice a4 klr.length n4⟩ kst (.slice a6 klf.length n6) klr klf kbody kas kca wx (hf4x.mono hRx) (hf6x.mono hRx) (by omega) (by omega) (by show ks.length + ka.length + kp.length ≤ _; omega)
        have HK2 := Lib.hid (fun wy h4 h6 => refKeep_any ⟨km, ks, ka, kp, .slice a4 klr.length n4⟩ kst (.slice a6 klf.length n6) klr klf kbody kas kca wy h4 h6 (by omega) (by omega) (by show ks.length + ka.length + kp.length ≤ _; omega))
        simp only [Rq.val] at hK1 HK2
        clear hkf hks hf4 hf6 hLr hbwx hT hbr hwr
        go_upto_region 9 with fail
        rw [← HBD.out, ← HWwx.out]
        clear HBD HWwx c0 c1 c2 c3 c4 c5 c6 c7 c8 c9
        have x0 : wx.cell? ⟨D, 0, none⟩ = some (S km) := hBD.cell 0; have x1 : wx.cell? ⟨D, 1, none⟩ = some (S ks) := hBD.cell 1; have x2 : wx.cell? ⟨D, 2, none⟩ = some (S ka) := hBD.cell 2; have x3 : wx.cell? ⟨D, 3, none⟩ = some (S kp) := hBD.cell 3; have x4 : wx.cell? ⟨D, 4, none⟩ = some (.slice a4 klr.length n4) := hBD.cell 4; have x5 : wx.cell? ⟨D, 5, none⟩ = some (.int .i64 kst) := hBD.cell 5; have x6 : wx.cell? ⟨D, 6, none⟩ = some (.slice a6 klf.length n6) := hBD.cell 6; have x7 : wx.cell? ⟨D, 7, none⟩ = some (S kbody) := hBD.cell 7; have x8 : wx.cell? ⟨D, 8, none⟩ = some (.int .i64 kas) := hBD.cell 8; have x9 : wx.cell? ⟨D, 9, none⟩ = some (.int .i64 kca) := hBD.cell 9
        go_wp2_with fail
        refine hK1.mono ?_
        clear x0 x1 x2 x3 x4 x5 x6 x7 x8 x9 hK1
        rintro e wy ⟨hby, hcase⟩
        have hDy := hBD.on hby
        have hTy := hTx.below hby
        have hf4y := hf4x.below (hby.mono hRx)
        have hf6y := hf6x.below (hby.mono hRx)
        have hRy : R ≤ wy.heap.size := Nat.le_of_lt hTy.rlt
        have hwy : Below R w4 wy := hwx.trans (hby.mono hRx)
        clear hBD hTx hf4x hf6x hwx hby
        rcases hcase with ⟨hno, rfl⟩ | ⟨hyes, v1, rfl, hret⟩
        · have HL1 := Lib.hid (HSK.out hno l HLD.out)
          simp only [entZ]
          obtain ⟨wz, ewz⟩ : ∃ wz : World, wz = wy.alloc (.cells #[S [], .slice none 0 0, .int .i64 0, .slice none 0 0, S [], .int .i64 0, .int .i64 0] 36) := ⟨_, rfl⟩
          obtain ⟨X, eX⟩ : ∃ X, X = wy.heap.size := ⟨_, rfl⟩
          have hBX : Blk wz X 36 #[S [], .slice none 0 0, .int .i64 0, .slice none 0 0, S [], .int .i64 0, .int .i64 0] := by rw [ewz, eX]; exact Blk.new _ _ _
          have hbwz : Below wy.heap.size wy wz := by rw [ewz]; exact (Below.refl _ _).alloc (Nat.le_refl _) _
          have HWwz := Lib.hid ewz
          have HBX := Lib.hid eX
          clear ewz eX
          have hDz := hDy.on hbwz
          have hTz := hTy.below hbwz
          have hf4z := hf4y.below (hbwz.mono hRy)
          have hf6z := hf6y.below (hbwz.mono hRy)
          have hRz : R ≤ wz.heap.size := Nat.le_of_lt hTz.rlt
          have hwz : Below R w4 wz := hwy.trans (hbwz.mono hRy)
          have hK2 := HK2.out wz (hf4z.mono hRz) (hf6z.mono hRz)
          clear hDy hTy hf4y hf6y hwy hbwz HSK HPT
          go_upto_region 10 with fail
          rw [← HBX.out, ← HWwz.out]
          clear HBX HWwz
          have x0 : wz.cell? ⟨D, 0, none⟩ = some (S km) := hDz.cell 0; have x1 : wz.cell? ⟨D, 1, none⟩ = some (S ks) := hDz.cell 1; have x2 : wz.cell? ⟨D, 2, none⟩ = some (S ka) := hDz.cell 2; have x3 : wz.cell? ⟨D, 3, none⟩ = some (S kp) := hDz.cell 3; have x4 : wz.cell? ⟨D, 4, none⟩ = some (.slice a4 klr.length n4) := hDz.cell 4; have x5 : wz.cell? ⟨D, 5, none⟩ = some (.int .i64 kst) := hDz.cell 5; have x6 : wz.cell? ⟨D, 6, none⟩ = some (.slice a6 klf.length n6) := hDz.cell 6; have x7 : wz.cell? ⟨D, 7, none⟩ = some (S kbody) := hDz.cell 7; have x8 : wz.cell? ⟨D, 8, none⟩ = some (.int .i64 kas) := hDz.cell 8; have x9 : wz.cell? ⟨D, 9, none⟩ = some (.int .i64 kca) := hDz.cell 9
          go_wp2_with fail
          refine hK2.mono ?_
          clear x0 x1 x2 x3 x4 x5 x6 x7 x8 x9 hK2
          rintro e wa ⟨hba, (⟨-, rfl⟩ | ⟨hyes, -⟩)⟩
          rotate_left
          · rw [hno] at hyes
            cases hyes
          have hXa := hBX.on hba
          have hTa := hTz.below hba
          have hRa : R ≤ wa.heap.size := Nat.le_of_lt hTa.rlt
          have hwa : Below R w4 wa := hwz.trans (hba.mono hRz)
          simp only [entZ]
          clear hBX hTz hf4z hf6z hwz hba hDz
          obtain ⟨wb, ewb⟩ : ∃ wb : World, wb = wa.alloc (.cells #[S [], .slice none 0 0, .int .i64 0, .slice none 0 0, S [], .int .i64 0, .int .i64 0] 36) := ⟨_, rfl⟩
          obtain ⟨Y, eY⟩ : ∃ Y, Y = wa.heap.size := ⟨_, rfl⟩
          have hBY : Blk wb Y 36 #[S [], .slice none 0 0, .int .i64 0, .slice none 0 0, S [], .int .i64 0, .int .i64 0] := by rw [ewb, eY]; exact Blk.new _ _ _
          have hbwb : Below wa.heap.size wa wb := by rw [ewb]; exact (Below.refl _ _).alloc (Nat.le_refl _) _
          have HWwb := Lib.hid ewb
          have HBY := Lib.hid eY
          clear ewb eY
          have hXb := hXa.on hbwb
          have hTb := hTa.below hbwb
          have hRb : R ≤ wb.heap.size := Nat.le_of_lt hTb.rlt
          have hwb : Below R w4 wb := hwa.trans (hbwb.mono hRa)
          clear hXa hTa hwa hbwb
          go_upto_region 11 with fail
          rw [← HBY.out, ← HWwb.out]
          clear HBY HWwb
          have y0 : wb.cell? ⟨X, 0, none⟩ = some (S []) := hXb.cell 0; have y1 : wb.cell? ⟨X, 1, none⟩ = some (.slice none 0 0) := hXb.cell 1; have y2 : wb.cell? ⟨X, 2, none⟩ = some (.int .i64 0) := hXb.cell 2; have y3 : wb.cell? ⟨X, 3, none⟩ = some (.slice none 0 0) := hXb.cell 3; have y4 : wb.cell? ⟨X, 4, none⟩ = some (S []) := hXb.cell 4; have y5 : wb.cell? ⟨X, 5, none⟩ = some (.int .i64 0) := hXb.cell 5; have y6 : wb.cell? ⟨X, 6, none⟩ = some (.int .i64 0) := hXb.cell 6
          have z0 : wb.cell? ⟨Y, 0, none⟩ = some (S []) := hBY.cell 0; have z1 : wb.cell? ⟨Y, 1, none⟩ = some (.slice none 0 0) := hBY.cell 1; have z2 : wb.cell? ⟨Y, 2, none⟩ = some (.int .i64 0) := hBY.cell 2; have z3 : wb.cell? ⟨Y, 3, none⟩ = some (.slice none 0 0) := hBY.cell 3; have z4 : wb.cell? ⟨Y, 4, none⟩ = some (S []) := hBY.cell 4; have z5 : wb.cell? ⟨Y, 5, none⟩ = some (.int .i64 0) := hBY.cell 5; have z6 : wb.cell? ⟨Y, 6, none⟩ = some (.int .i64 0) := hBY.cell 6
          have hS := Same_zero wb
          simp only [entZ] at hS
          go_wp2_with fail
          refine hS.mono ?_
          rintro e wc ⟨rfl, hbc⟩
          have hTc := hTb.below hbc
          have hwc : Below R w4 wc := hwb.trans (hbc.mono hRb)
          clear y0 y1 y2 y3 y4 y5 y6 z0 z1 z2 z3 z4 z5 z6 hS hXb hBY
          go_wp2
          go_roundw
          case rel => exact ⟨j + 1, last, v, er, l, by go_num, by omega, by omega, hTc, HIDS.out, by omega, by omega, HL1.out, hwc⟩
          case measure => (first | (simp [intOf]; done) | (simp [intOf]; omega))
        · obtain ⟨vpx, vfx, rfl, o1, o2⟩ := hret
          simp only [itemK] at o1 o2 ⊢
          obtain ⟨apx, kpx, rfl, -⟩ := (Fs.own o1).form
          obtain ⟨afx, kfx, rfl, -⟩ := (Fs.own o2).form
          have HP0 := Lib.hid (fun l' (hl' : Laid 20000 l ⟨keyR ⟨km, ks, ka, kp, .slice a4 klr.length n4⟩, .slice apx (pickOf klr klf).length kpx, kst, .slice afx (strip klf).length kfx, kbody, kas, kca⟩ (pickOf klr klf) (strip klf) l') => HPT.out hyes l l' ⟨keyR ⟨km, ks, ka, kp, .slice a4 klr.length n4⟩, .slice apx (pickOf klr klf).length kpx, kst, .slice afx (strip klf).length kfx, kbody, kas, kca⟩ (pickOf klr klf) (strip klf) HLD.out (fun _ => rfl) hl')
          obtain ⟨wz, ewz⟩ : ∃ wz : World, wz = wy.alloc (.cells #[S (keyR ⟨km, ks, ka, kp, .slice a4 klr.length n4⟩), .slice apx (pickOf klr klf).length kpx, .int .i64 kst, .slice afx (strip klf).length kfx, S kbody, .int .i64 kas, .int .i64 kca] 36) := ⟨_, rfl⟩
          obtain ⟨X, eX⟩ : ∃ X, X = wy.heap.size := ⟨_, rfl⟩
          have hBX : Blk wz X 36 #[S (keyR ⟨km, ks, ka, kp, .slice a4 klr.length n4⟩), .slice apx (pickOf klr klf).length kpx, .int .i64 kst, .slice afx (strip klf).length kfx, S kbody, .int .i64 kas, .int .i64 kca] := by rw [ewz, eX]; exact Blk.new _ _ _
          have hbwz : Below wy.heap.size wy wz := by rw [ewz]; exact (Below.refl _ _).alloc (Nat.le_refl _) _
          have HWwz := Lib.hid ewz
          have HBX := Lib.hid eX
          clear ewz eX
          have hDz := hDy.on hbwz
          have hTz := hTy.below hbwz
          have hf4z := hf4y.below (hbwz.mono hRy)
          have hf6z := hf6y.below (hbwz.mono hRy)
          have hRz : R ≤ wz.heap.size := Nat.le_of_lt hTz.rlt
          have hwz : Below R w4 wz := hwy.trans (hbwz.mono hRy)
          have o1z := own_below o1 hbwz
          have o2z := own_below o2 hbwz
          have hK2 := HK2.out wz (hf4z.mono hRz) (hf6z.mono hRz)
          clear hDy hTy hf4y hf6y hwy hbwz HSK HPT o1 o2
          go_upto_region 10 with fail
          rw [← HBX.out, ← HWwz.out]
          clear HBX HWwz
          have x0 : wz.cell? ⟨D, 0, none⟩ = some (S km) := hDz.cell 0; have x1 : wz.cell? ⟨D, 1, none⟩ = some (S ks) := hDz.cell 1; have x2 : wz.cell? ⟨D, 2, none⟩ = some (S ka) := hDz.cell 2; have x3 : wz.cell? ⟨D, 3, none⟩ = some (S kp) := hDz.cell 3; have x4 : wz.cell? ⟨D, 4, none⟩ = some (.slice a4 klr.length n4) := hDz.cell 4; have x5 : wz.cell? ⟨D, 5, none⟩ = some (.int .i64 kst) := hDz.cell 5; have x6 : wz.cell? ⟨D, 6, none⟩ = some (.slice a6 klf.length n6) := hDz.cell 6; have x7 : wz.cell? ⟨D, 7, none⟩ = some (S kbody) := hDz.cell 7; have x8 : wz.cell? ⟨D, 8, none⟩ = some (.int .i64 kas) := hDz.cell 8; have x9 : wz.cell? ⟨D, 9, none⟩ = some (.int .i64 kca) := hDz.cell 9
          go_wp2_with fail
          refine hK2.mono ?_
          clear x0 x1 x2 x3 x4 x5 x6 x7 x8 x9 hK2
          rintro e wa ⟨hba, (⟨hno, -⟩ | ⟨-, v2, rfl, hret2⟩)⟩
          · rw [hyes] at hno
            cases hno
          have hXa := hBX.on hba
          have hTa := hTz.below hba
          have hRa : R ≤ wa.heap.size := Nat.le_of_lt hTa.rlt
          have hwa : Below R w4 wa := hwz.trans (hba.mono hRz)
          have o1a := own_below o1z hba
          have o2a := own_below o2z hba
          obtain ⟨vpy, vfy, rfl, o3, o4⟩ := hret2
          simp only [itemK] at o3 o4 ⊢
          obtain ⟨apy, kpy, rfl, -⟩ := (Fs.own o3).form
          obtain ⟨afy, kfy, rfl, -⟩ := (Fs.own o4).form
          clear hBX hTz hf4z hf6z hwz hba hDz o1z o2z
          obtain ⟨wb, ewb⟩ : ∃ wb : World, wb = wa.alloc (.cells #[S (keyR ⟨km, ks, ka, kp, .slice a4 klr.length n4⟩), .slice apy (pickOf klr klf).length kpy, .int .i64 kst, .slice afy (strip klf).length kfy, S kbody, .int .i64 kas, .int .i64 kca] 36) := ⟨_, rfl⟩
          obtain ⟨Y, eY⟩ : ∃ Y, Y = wa.heap.size := ⟨_, rfl⟩
          have hBY : Blk wb Y 36 #[S (keyR ⟨km, ks, ka, kp, .slice a4 klr.length n4⟩), .slice apy (pickOf klr klf).length kpy, .int .i64 kst, .slice afy (strip klf).length kfy, S kbody, .int .i64 kas, .int .i64 kca] := by rw [ewb, eY]; exact Blk.new _ _ _
          have hbwb : Below wa.heap.size wa wb := by rw [ewb]; exact (Below.refl _ _).alloc (Nat.le_refl _) _
          have HWwb := Lib.hid ewb
          have HBY := Lib.hid eY
          clear ewb eY
          have hXb := hXa.on hbwb
          have hTb := hTa.below hbwb
          have hRb : R ≤ wb.heap.size := Nat.le_of_lt hTb.rlt
          have hwb : Below R w4 wb := hwa.trans (hbwb.mono hRa)
          have o1b := own_below o1a hbwb
          have o2b := own_below o2a hbwb
          have o3b := own_below o3 hbwb
          have o4b := own_below o4 hbwb
          clear hXa hTa hwa hbwb o1a o2a o3 o4
          go_upto_region 11 with fail
          rw [← HBY.out, ← HWwb.out]
          clear HBY HWwb
          have y0 : wb.cell? ⟨X, 0, none⟩ = some (S (keyR ⟨km, ks, ka, kp, .slice a4 klr.length n4⟩)) := hXb.cell 0; have y1 : wb.cell? ⟨X, 1, none⟩ = some (.slice apx (pickOf klr klf).length kpx) := hXb.cell 1; have y2 : wb.cell? ⟨X, 2, none⟩ = some (.int .i64 kst) := hXb.cell 2; have y3 : wb.cell? ⟨X, 3, none⟩ = some (.slice afx (strip klf).length kfx) := hXb.cell 3; have y4 : wb.cell? ⟨X, 4, none⟩ = some (S kbody) := hXb.cell 4; have y5 : wb.cell? ⟨X, 5, none⟩ = some (.int .i64 kas) := hXb.cell 5; have y6 : wb.cell? ⟨X, 6, none⟩ = some (.int .i64 kca) := hXb.cell 6
          have z0 : wb.cell? ⟨Y, 0, none⟩ = some (S (keyR ⟨km, ks, ka, kp, .slice a4 klr.length n4⟩)) := hBY.cell 0; have z1 : wb.cell? ⟨Y, 1, none⟩ = some (.slice apy (pickOf klr klf).length kpy) := hBY.cell 1; have z2 : wb.cell? ⟨Y, 2, none⟩ = some (.int .i64 kst) := hBY.cell 2; have z3 : wb.cell? ⟨Y, 3, none⟩ = some (.slice afy (strip klf).length kfy) := hBY.cell 3; have z4 : wb.cell? ⟨Y, 4, none⟩ = some (S kbody) := hBY.cell 4; have z5 : wb.cell? ⟨Y, 5, none⟩ = some (.int .i64 kas) := hBY.cell 5; have z6 : wb.cell? ⟨Y, 6, none⟩ = some (.int .i64 kca) := hBY.cell 6
          have hS := refSame_eq ⟨keyR ⟨km, ks, ka, kp, .slice a4 klr.length n4⟩, .slice apx (pickOf klr klf).length kpx, kst, .slice afx (strip klf).length kfx, kbody, kas, kca⟩ (.slice apy (pickOf klr klf).length kpy) (.slice afy (strip klf).length kfy) (pickOf klr klf) (strip klf) wb (Fs.own o1b) (Fs.own o2b) (Fs.own o3b) (Fs.own o4b)
          simp only [En.val] at hS
          go_wp2_with fail
          refine hS.mono ?_
          rintro e wc ⟨rfl, hbc⟩
          have hXc := hXb.on hbc
          have hYc := hBY.on hbc
          have hTc := hTb.below hbc
          have hRc : R ≤ wc.heap.size := Nat.le_of_lt hTc.rlt
          have hwc : Below R w4 wc := hwb.trans (hbc.mono hRb)
          have o1c := own_below o1b hbc
          have o2c := own_below o2b hbc
          have o3c := own_below o3b hbc
          have o4c := own_below o4b hbc
          clear y0 y1 y2 y3 y4 y5 y6 z0 z1 z2 z3 z4 z5 z6 hS hXb hBY o1b o2b o3b o4b hTb hwb hbc
          have y0 : wc.cell? ⟨X, 0, none⟩ = some (S (keyR ⟨km, ks, ka, kp, .slice a4 klr.length n4⟩)) := hXc.cell 0; have y1 : wc.cell? ⟨X, 1, none⟩ = some (.slice apx (pickOf klr klf).length kpx) := hXc.cell 1; have y2 : wc.cell? ⟨X, 2, none⟩ = some (.int .i64 kst) := hXc.cell 2; have y3 : wc.cell? ⟨X, 3, none⟩ = some (.slice afx (strip klf).length kfx) := hXc.cell 3; have y4 : wc.cell? ⟨X, 4, none⟩ = some (S kbody) := hXc.cell 4; have y5 : wc.cell? ⟨X, 5, none⟩ = some (.int .i64 kas) := hXc.cell 5; have y6 : wc.cell? ⟨X, 6, none⟩ = some (.int .i64 kca) := hXc.cell 6
          obtain ⟨ra, rb, hPut⟩ := two_puts hTc HIDS.out ⟨hla, by omega⟩ ⟨keyR ⟨km, ks, ka, kp, .slice a4 klr.length n4⟩, .slice apx (pickOf klr klf).length kpx, kst, .slice afx (strip klf).length kfx, kbody, kas, kca⟩ (pickOf klr klf) (strip klf) (.inr (own_base o1c (Nat.zero_le _))) (.inr (own_base o2c (Nat.zero_le _))) (.slice apy (pickOf klr klf).length kpy) (.slice afy (strip klf).length kfy) (.inr (own_base o3c (Nat.zero_le _))) (.inr (own_base o4c (Nat.zero_le _))) r7 (by show kbody.length ≤ _; omega) r5 (by omega)
          simp only [En.val] at hPut
          go_wp2_with fail
          refine hPut.mono ?_
          clear y0 y1 y2 y3 y4 y5 y6 hPut
          rintro e wp ⟨rfl, hkp, hbp, hrefp⟩
          have hYp := hkp Y _ _ (by decide) (by decide) (by decide) hYc
          have hrf := hrefp wp (Below.refl _ _)
          have hwp : Below R w4 wp := hwc.trans hbp
          clear hrefp hTc hXc hYc o1c o2c o3c o4c hwc hbp hkp
          have z0 : wp.cell? ⟨Y, 0, none⟩ = some (S (keyR ⟨km, ks, ka, kp, .slice a4 klr.length n4⟩)) := hYp.cell 0; have z1 : wp.cell? ⟨Y, 1, none⟩ = some (.slice apy (pickOf klr klf).length kpy) := hYp.cell 1; have z2 : wp.cell? ⟨Y, 2, none⟩ = some (.int .i64 kst) := hYp.cell 2; have z3 : wp.cell? ⟨Y, 3, none⟩ = some (.slice afy (strip klf).length kfy) := hYp.cell 3; have z4 : wp.cell? ⟨Y, 4, none⟩ = some (S kbody) := hYp.cell 4; have z5 : wp.cell? ⟨Y, 5, none⟩ = some (.int .i64 kas) := hYp.cell 5; have z6 : wp.cell? ⟨Y, 6, none⟩ = some (.int .i64 kca) := hYp.cell 6
          go_wp2_with fail
          refine hrf.mono ?_
          clear z0 z1 z2 z3 z4 z5 z6 hrf
          rintro e wq ⟨rfl, last', v', er', l', hTq, hidq, hlo, hhi, hlaid, hkq, hbq⟩
          have HL1 := Lib.hid (HP0.out l' hlaid)
          have HID2 := Lib.hid hidq
          have hwq : Below R w4 wq := hwp.trans hbq
          clear hidq hlaid hkq hbq
          go_wp2
          go_roundw
          case rel => exact ⟨j + 1, last', v', er', l', by go_num, by omega, by omega, hTq, HID2.out, by omega, by omega, HL1.out, hwq⟩
          case measure => (first | (simp [intOf]; done) | (simp [intOf]; omega))
      · obtain rfl : j = 20 := by omega
        have HE : Hid (Laid21 L (min L.length 20) l) := by rw [Nat.min_eq_right hj]; exact HLD.out
        clear h20
        go_wp2
        go_ret3
        exact HFIN.out _ r last v er l hT HIDS.out hla (by omega) HE.out hwr
    · obtain rfl : j = L.length := by omega
      have HE : Hid (Laid21 L (min L.length 20) l) := by rw [Nat.min_eq_left hj20]; exact HLD.out
      clear hlt
      go_wp2
      go_ret3
      exact HFIN.out _ r last v er l hT HIDS.out hla (by omega) HE.out hwr
end Go.Proofs.YtahapblgmehngaaGreatDoor

