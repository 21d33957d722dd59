/- Parts of the proof of DealLacks_holds: the texts Dea1. -/
import Derived.Test.YtahapblgmehngaaGreatDoorC16
import Derived.Test.YtahapblgmehngaaGreatDoorC12
import Derived.Test.YtahapblgmehngaaGreatDoorC20
set_option linter.unusedSimpArgs false
set_option linter.unusedVariables false
set_option linter.unnecessarySimpa false
namespace Go.Proofs.YtahapblgmehngaaGreatDoor
open Go.RowKit Go.Dr

abbrev rangeT : Bytes := [114, 97, 110, 103, 101]
/-- Does a request ask for itself alone? -/
def aloneB (m : Bytes) (l : List F) : Bool := (!(m == [71, 69, 84]) && !(m == [72, 69, 65, 68])) || hasB l rangeT || (saysC l).ns
theorem run_ns (ns nc nt pu pr mr px oi : Bool) (ma sm mf ms : Int) (w : World) : (Instr.field 80 (.agg #[.bool ns, .bool nc, .bool nt, .bool pu, .bool pr, .bool mr, .bool px, .bool oi, .int .i64 ma, .int .i64 sm, .int .i64 mf, .int .i64 ms]) 0).run Tryz.prog w = .ok (.bool ns) w := by kernel_rfl
theorem alone_in (l : List F) : aloneB [71, 69, 84] l = (hasB l rangeT || (saysC l).ns) ∧ aloneB [72, 69, 65, 68] l = (hasB l rangeT || (saysC l).ns) := by
  constructor <;> simp [aloneB]

set_option maxRecDepth 100000 in
set_option maxHeartbeats 4000000 in
theorem alone_any (r : Rq) (l : List F) (w : World) (h : Fs w.heap.size w r.v l) (hl : fsum l ≤ 1099511627776) :
    Calls Tryz.prog 32 #[r.val] w fun e w' => e = .returned (.bool (aloneB r.m l)) ∧ Below w.heap.size w w' := by
  obtain ⟨pr, cr, hrv, -⟩ := h.form
  obtain ⟨rm, rs, ra, rp, rv⟩ := r
  simp only at hrv h
  subst hrv
  simp only [Rq.val]
  by_cases hg : rm = [71, 69, 84]
  · subst hg
    obtain ⟨w0, ew⟩ : ∃ w0 : World, w0 = w.alloc (.cells #[S [71, 69, 84], S rs, S ra, S rp, .slice pr l.length cr] 28) := ⟨_, rfl⟩
    obtain ⟨Z, eZ⟩ : ∃ Z, Z = w.heap.size := ⟨_, rfl⟩
    have hQ0 : Blk w0 Z 28 #[S [71, 69, 84], S rs, S ra, S rp, .slice pr l.length cr] := by rw [ew, eZ]; exact Blk.new _ _ _
    have hb0 : Below w.heap.size w w0 := by rw [ew]; exact (Below.refl _ _).alloc (Nat.le_refl _) _
    have h0 := (h.below hb0).mono hb0.size
    have HZ := Lib.hid eZ
    have HW := Lib.hid ew
    clear eZ ew h
    have HA := Lib.hid (alone_in l).1
    obtain ⟨res, eres⟩ : ∃ res, res = aloneB [71, 69, 84] l := ⟨_, rfl⟩
    rw [← eres] at HA ⊢
    clear eres
    have hV := Values_any l rangeT _ w0 h0 hl (by decide)
    have HH : Hid (hasB l rangeT = decide (0 < (values l rangeT).length)) := rfl
    go_enter Tryz.func32, Tryz.ntmps32
    go_upto_region 1 with fail
    rw [← HZ.out, ← HW.out]
    (have x0 : w0.cell? ⟨Z, 0, none⟩ = some (S [71, 69, 84]) := hQ0.cell 0; have x1 : w0.cell? ⟨Z, 1, none⟩ = some (S rs) := hQ0.cell 1; have x2 : w0.cell? ⟨Z, 2, none⟩ = some (S ra) := hQ0.cell 2; have x3 : w0.cell? ⟨Z, 3, none⟩ = some (S rp) := hQ0.cell 3; have x4 : w0.cell? ⟨Z, 4, none⟩ = some (.slice pr l.length cr) := hQ0.cell 4)
    go_wp2_with fail
    refine hV.mono ?_
    rintro e w1 ⟨vv, rfl, hvv, hb1⟩
    obtain ⟨pa, ca, rfl, hm⟩ := (Ss.own hvv).form
    have hQ1 := hQ0.on hb1
    have h1 := (h0.below hb1).mono hb1.size
    have hw1 := Bl.tr hb0 hb1
    obtain ⟨n, en⟩ : ∃ n, n = (values l rangeT).length := ⟨_, rfl⟩
    rw [← en] at HH ⊢
    clear hvv hV x0 x1 x2 x3 x4 en
    by_cases hn : 0 < n
    · have d1 : decide (0 < n) = true := by simpa using hn
      have d2 : decide ((0 : Int) < (n : Int)) = true := by simp; omega
      have HH2 : Hid (res = true) := by show _ = _; rw [HA.out, HH.out, d1]; rfl
      go_wp2
      go_ret
      exact ⟨ret_bool (by rw [HH2.out]), hw1⟩
    · have d1 : decide (0 < n) = false := by simpa using hn
      have d2 : decide ((0 : Int) < (n : Int)) = false := by simp; omega
      have HH2 : Hid (res = (saysC l).ns) := by show _ = _; rw [HA.out, HH.out, d1]; rfl
      have hSa := Says_any ⟨[71, 69, 84], rs, ra, rp, .slice pr l.length cr⟩ l w1 h1 hl
      obtain ⟨c, ec⟩ : ∃ c, c = saysC l := ⟨_, rfl⟩
      rw [← ec] at hSa HH2
      clear ec
      have hrun := run_ns c.ns c.nc c.nt c.pu c.pr c.mr c.px c.oi c.ma c.sm c.mf c.ms
      simp only [Rq.val, Ctl.val] at hSa
      (have x0 : w1.cell? ⟨Z, 0, none⟩ = some (S [71, 69, 84]) := hQ1.cell 0; have x1 : w1.cell? ⟨Z, 1, none⟩ = some (S rs) := hQ1.cell 1; have x2 : w1.cell? ⟨Z, 2, none⟩ = some (S ra) := hQ1.cell 2; have x3 : w1.cell? ⟨Z, 3, none⟩ = some (S rp) := hQ1.cell 3; have x4 : w1.cell? ⟨Z, 4, none⟩ = some (.slice pr l.length cr) := hQ1.cell 4)
      go_wp2_with fail
      refine hSa.mono ?_
      rintro e w2 ⟨rfl, hb2⟩
      go_wp2
      go_ret
      exact ⟨ret_bool (by rw [HH2.out]), Bl.tr hw1 hb2⟩
  · by_cases hh : rm = [72, 69, 65, 68]
    · subst hh
      obtain ⟨w0, ew⟩ : ∃ w0 : World, w0 = w.alloc (.cells #[S [72, 69, 65, 68], S rs, S ra, S rp, .slice pr l.length cr] 28) := ⟨_, rfl⟩
      obtain ⟨Z, eZ⟩ : ∃ Z, Z = w.heap.size := ⟨_, rfl⟩
      have hQ0 : Blk w0 Z 28 #[S [72, 69, 65, 68], S rs, S ra, S rp, .slice pr l.length cr] := by rw [ew, eZ]; exact Blk.new _ _ _
      have hb0 : Below w.heap.size w w0 := by rw [ew]; exact (Below.refl _ _).alloc (Nat.le_refl _) _
      have h0 := (h.below hb0).mono hb0.size
      have HZ := Lib.hid eZ
      have HW := Lib.hid ew
      clear eZ ew h
      have HA := Lib.hid (alone_in l).2
      obtain ⟨res, eres⟩ : ∃ res, res = aloneB [72, 69, 65, 68] l := ⟨_, rfl⟩
      rw [← eres] at HA ⊢
      clear eres
      have hV := Values_any l rangeT _ w0 h0 hl (by decide)
      have HH : Hid (hasB l rangeT = decide (0 < (values l rangeT).length)) := rfl
      go_enter Tryz.func32, Tryz.ntmps32
      go_upto_region 1 with fail
      rw [← HZ.out, ← HW.out]
      (have x0 : w0.cell? ⟨Z, 0, none⟩ = some (S [72, 69, 65, 68]) := hQ0.cell 0; have x1 : w0.cell? ⟨Z, 1, none⟩ = some (S rs) := hQ0.cell 1; have x2 : w0.cell? ⟨Z, 2, none⟩ = some (S ra) := hQ0.cell 2; have x3 : w0.cell? ⟨Z, 3, none⟩ = some (S rp) := hQ0.cell 3; have x4 : w0.cell? ⟨Z, 4, none⟩ = some (.slice pr l.length cr) := hQ0.cell 4)
      go_wp2_with fail
      refine hV.mono ?_
      rintro e w1 ⟨vv, rfl, hvv, hb1⟩
      obtain ⟨pa, ca, rfl, hm⟩ := (Ss.own hvv).form
      have hQ1 := hQ0.on hb1
      have h1 := (h0.below hb1).mono hb1.size
      have hw1 := Bl.tr hb0 hb1
      obtain ⟨n, en⟩ : ∃ n, n = (values l rangeT).length := ⟨_, rfl⟩
      rw [← en] at HH ⊢
      clear hvv hV x0 x1 x2 x3 x4 en
      by_cases hn : 0 < n
      · have d1 : decide (0 < n) = true := by simpa using hn
        have d2 : decide ((0 : Int) < (n : Int)) = true := by simp; omega
        have HH2 : Hid (res = true) := by show _ = _; rw [HA.out, HH.out, d1]; rfl
        go_wp2
        go_ret
        exact ⟨ret_bool (by rw [HH2.out]), hw1⟩
      · have d1 : decide (0 < n) = false := by simpa using hn
        have d2 : decide ((0 : Int) < (n : Int)) = false := by simp; omega
        have HH2 : Hid (res = (saysC l).ns) := by show _ = _; rw [HA.out, HH.out, d1]; rfl
        have hSa := Says_any ⟨[72, 69, 65, 68], rs, ra, rp, .slice pr l.length cr⟩ l w1 h1 hl
        obtain ⟨c, ec⟩ : ∃ c, c = saysC l := ⟨_, rfl⟩
        rw [← ec] at hSa HH2
        clear ec
        have hrun := run_ns c.ns c.nc c.nt c.pu c.pr c.mr c.px c.oi c.ma c.sm c.mf c.ms
        simp only [Rq.val, Ctl.val] at hSa
        (have x0 : w1.cell? ⟨Z, 0, none⟩ = some (S [72, 69, 65, 68]) := hQ1.cell 0; have x1 : w1.cell? ⟨Z, 1, none⟩ = some (S rs) := hQ1.cell 1; have x2 : w1.cell? ⟨Z, 2, none⟩ = some (S ra) := hQ1.cell 2; have x3 : w1.cell? ⟨Z, 3, none⟩ = some (S rp) := hQ1.cell 3; have x4 : w1.cell? ⟨Z, 4, none⟩ = some (.slice pr l.length cr) := hQ1.cell 4)
        go_wp2_with fail
        refine hSa.mono ?_
        rintro e w2 ⟨rfl, hb2⟩
        go_wp2
        go_ret
        exact ⟨ret_bool (by rw [HH2.out]), Bl.tr hw1 hb2⟩
    · have g1 : (rm == [71, 69, 84]) = false := by simpa using hg
      have g2 : (rm == [72, 69, 65, 68]) = false := by simpa using hh
      have g3 : (rm != [71, 69, 84]) = true := by simpa using hg
      have g4 : (rm != [72, 69, 65, 68]) = true := by simpa using hh
      have HA : Hid (aloneB rm l = true) := by show _ = _; unfold aloneB; rw [g1, g2]; rfl
      obtain ⟨res, eres⟩ : ∃ res, res = aloneB rm l := ⟨_, rfl⟩
      rw [← eres] at HA ⊢
      clear eres hg hh
      obtain ⟨w0, ew⟩ : ∃ w0 : World, w0 = w.alloc (.cells #[S rm, S rs, S ra, S rp, .slice pr l.length cr] 28) := ⟨_, rfl⟩
      obtain ⟨Z, eZ⟩ : ∃ Z, Z = w.heap.size := ⟨_, rfl⟩
      have hQ0 : Blk w0 Z 28 #[S rm, S rs, S ra, S rp, .slice pr l.length cr] := by rw [ew, eZ]; exact Blk.new _ _ _
      have hb0 : Below w.heap.size w w0 := by rw [ew]; exact (Below.refl _ _).alloc (Nat.le_refl _) _
      have h0 := (h.below hb0).mono hb0.size
      have HZ := Lib.hid eZ
      have HW := Lib.hid ew
      clear eZ ew h
      go_enter Tryz.func32, Tryz.ntmps32
      go_upto_region 1 with fail
      rw [← HZ.out, ← HW.out]
      (have x0 : w0.cell? ⟨Z, 0, none⟩ = some (S rm) := hQ0.cell 0; have x1 : w0.cell? ⟨Z, 1, none⟩ = some (S rs) := hQ0.cell 1; have x2 : w0.cell? ⟨Z, 2, none⟩ = some (S ra) := hQ0.cell 2; have x3 : w0.cell? ⟨Z, 3, none⟩ = some (S rp) := hQ0.cell 3; have x4 : w0.cell? ⟨Z, 4, none⟩ = some (.slice pr l.length cr) := hQ0.cell 4)
      go_wp2
      go_ret
      exact ⟨ret_bool (by rw [HA.out]), hb0⟩

set_option maxRecDepth 100000 in
set_option maxHeartbeats 4000000 in
theorem refAlone_any (r : Rq) (l : List F) (w : World) (h : Fs w.heap.size w r.v l) (hl : fsum l ≤ 1099511627776) :
    Calls Tryz.prog 20 #[r.val] w fun e w' => e = .returned (.bool (aloneB r.m l)) ∧ Below w.heap.size w w' := by
  obtain ⟨pr, cr, hrv, -⟩ := h.form
  obtain ⟨rm, rs, ra, rp, rv⟩ := r
  simp only at hrv h
  subst hrv
  simp only [Rq.val]
  by_cases hg : rm = [71, 69, 84]
  · subst hg
    obtain ⟨w0, ew⟩ : ∃ w0 : World, w0 = w.alloc (.cells #[S [71, 69, 84], S rs, S ra, S rp, .slice pr l.length cr] 28) := ⟨_, rfl⟩
    obtain ⟨Z, eZ⟩ : ∃ Z, Z = w.heap.size := ⟨_, rfl⟩
    have hQ0 : Blk w0 Z 28 #[S [71, 69, 84], S rs, S ra, S rp, .slice pr l.length cr] := by rw [ew, eZ]; exact Blk.new _ _ _
    have hb0 : Below w.heap.size w w0 := by rw [ew]; exact (Below.refl _ _).alloc (Nat.le_refl _) _
    have h0 := (h.below hb0).mono hb0.size
    have HZ := Lib.hid eZ
    have HW := Lib.hid ew
    clear eZ ew h
    have HA := Lib.hid (alone_in l).1
    obtain ⟨res, eres⟩ : ∃ res, res = aloneB [71, 69, 84] l := ⟨_, rfl⟩
    rw [← eres] at HA ⊢
    clear eres
    have hV := refHas_any l rangeT _ w0 h0 hl (by decide)
    obtain ⟨hb, ehb⟩ : ∃ hb, hb = hasB l rangeT := ⟨_, rfl⟩
    rw [← ehb] at hV HA
    clear ehb
    go_enter Tryz.func20, Tryz.ntmps20
    go_upto_region 1 with fail
    rw [← HZ.out, ← HW.out]
    (have x0 : w0.cell? ⟨Z, 0, none⟩ = some (S [71, 69, 84]) := hQ0.cell 0; have x1 : w0.cell? ⟨Z, 1, none⟩ = some (S rs) := hQ0.cell 1; have x2 : w0.cell? ⟨Z, 2, none⟩ = some (S ra) := hQ0.cell 2; have x3 : w0.cell? ⟨Z, 3, none⟩ = some (S rp) := hQ0.cell 3; have x4 : w0.cell? ⟨Z, 4, none⟩ = some (.slice pr l.length cr) := hQ0.cell 4)
    go_wp2_with fail
    refine hV.mono ?_
    rintro e w1 ⟨rfl, hb1⟩
    have hQ1 := hQ0.on hb1
    have h1 := (h0.below hb1).mono hb1.size
    have hw1 := Bl.tr hb0 hb1
    clear hV x0 x1 x2 x3 x4
    cases hb with
    | true =>
      go_wp2
      go_ret
      exact ⟨ret_bool (by rw [HA.out]; rfl), hw1⟩
    | false =>
      have hSa := refSays18_any ⟨[71, 69, 84], rs, ra, rp, .slice pr l.length cr⟩ l w1 h1 hl
      obtain ⟨c, ec⟩ : ∃ c, c = saysC l := ⟨_, rfl⟩
      rw [← ec] at hSa HA
      clear ec
      have hrun := run_ns c.ns c.nc c.nt c.pu c.pr c.mr c.px c.oi c.ma c.sm c.mf c.ms
      simp only [Rq.val, Ctl.val] at hSa
      (have x0 : w1.cell? ⟨Z, 0, none⟩ = some (S [71, 69, 84]) := hQ1.cell 0; have x1 : w1.cell? ⟨Z, 1, none⟩ = some (S rs) := hQ1.cell 1; have x2 : w1.cell? ⟨Z, 2, none⟩ = some (S ra) := hQ1.cell 2; have x3 : w1.cell? ⟨Z, 3, none⟩ = some (S rp) := hQ1.cell 3; have x4 : w1.cell? ⟨Z, 4, none⟩ = some (.slice pr l.length cr) := hQ1.cell 4)
      go_wp2_with fail
      refine hSa.mono ?_
      rintro e w2 ⟨rfl, hb2⟩
      go_wp2
      go_ret
      exact ⟨ret_bool (by rw [HA.out]; rfl), Bl.tr hw1 hb2⟩
  · by_cases hh : rm = [72, 69, 65, 68]
    · subst hh
      obtain ⟨w0, ew⟩ : ∃ w0 : World, w0 = w.alloc (.cells #[S [72, 69, 65, 68], S rs, S ra, S rp, .slice pr l.length cr] 28) := ⟨_, rfl⟩
      obtain ⟨Z, eZ⟩ : ∃ Z, Z = w.heap.size := ⟨_, rfl⟩
      have hQ0 : Blk w0 Z 28 #[S [72, 69, 65, 68], S rs, S ra, S rp, .slice pr l.length cr] := by rw [ew, eZ]; exact Blk.new _ _ _
      have hb0 : Below w.heap.size w w0 := by rw [ew]; exact (Below.refl _ _).alloc (Nat.le_refl _) _
      have h0 := (h.below hb0).mono hb0.size
      have HZ := Lib.hid eZ
      have HW := Lib.hid ew
      clear eZ ew h
      have HA := Lib.hid (alone_in l).2
      obtain ⟨res, eres⟩ : ∃ res, res = aloneB [72, 69, 65, 68] l := ⟨_, rfl⟩
      rw [← eres] at HA ⊢
      clear eres
      have hV := refHas_any l rangeT _ w0 h0 hl (by decide)
      obtain ⟨hb, ehb⟩ : ∃ hb, hb = hasB l rangeT := ⟨_, rfl⟩
      rw [← ehb] at hV HA
      clear ehb
      go_enter Tryz.func20, Tryz.ntmps20
      go_upto_region 1 with fail
      rw [← HZ.out, ← HW.out]
      (have x0 : w0.cell? ⟨Z, 0, none⟩ = some (S [72, 69, 65, 68]) := hQ0.cell 0; have x1 : w0.cell? ⟨Z, 1, none⟩ = some (S rs) := hQ0.cell 1; have x2 : w0.cell? ⟨Z, 2, none⟩ = some (S ra) := hQ0.cell 2; have x3 : w0.cell? ⟨Z, 3, none⟩ = some (S rp) := hQ0.cell 3; have x4 : w0.cell? ⟨Z, 4, none⟩ = some (.slice pr l.length cr) := hQ0.cell 4)
      go_wp2_with fail
      refine hV.mono ?_
      rintro e w1 ⟨rfl, hb1⟩
      have hQ1 := hQ0.on hb1
      have h1 := (h0.below hb1).mono hb1.size
      have hw1 := Bl.tr hb0 hb1
      clear hV x0 x1 x2 x3 x4
      cases hb with
      | true =>
        go_wp2
        go_ret
        exact ⟨ret_bool (by rw [HA.out]; rfl), hw1⟩
      | false =>
        have hSa := refSays18_any ⟨[72, 69, 65, 68], rs, ra, rp, .slice pr l.length cr⟩ l w1 h1 hl
        obtain ⟨c, ec⟩ : ∃ c, c = saysC l := ⟨_, rfl⟩
        rw [← ec] at hSa HA
        clear ec
        have hrun := run_ns c.ns c.nc c.nt c.pu c.pr c.mr c.px c.oi c.ma c.sm c.mf c.ms
        simp only [Rq.val, Ctl.val] at hSa
        (have x0 : w1.cell? ⟨Z, 0, none⟩ = some (S [72, 69, 65, 68]) := hQ1.cell 0; have x1 : w1.cell? ⟨Z, 1, none⟩ = some (S rs) := hQ1.cell 1; have x2 : w1.cell? ⟨Z, 2, none⟩ = some (S ra) := hQ1.cell 2; have x3 : w1.cell? ⟨Z, 3, none⟩ = some (S rp) := hQ1.cell 3; have x4 : w1.cell? ⟨Z, 4, none⟩ = some (.slice pr l.length cr) := hQ1.cell 4)
        go_wp2_with fail
        refine hSa.mono ?_
        rintro e w2 ⟨rfl, hb2⟩
        go_wp2
        go_ret
        exact ⟨ret_bool (by rw [HA.out]; rfl), Bl.tr hw1 hb2⟩
    · have g1 : (rm == [71, 69, 84]) = false := by simpa using hg
      have g2 : (rm == [72, 69, 65, 68]) = false := by simpa using hh
      have g3 : (rm != [71, 69, 84]) = true := by simpa using hg
      have g4 : (rm != [72, 69, 65, 68]) = true := by simpa using hh
      have HA : Hid (aloneB rm l = true) := by show _ = _; unfold aloneB; rw [g1, g2]; rfl
      obtain ⟨res, eres⟩ : ∃ res, res = aloneB rm l := ⟨_, rfl⟩
      rw [← eres] at HA ⊢
      clear eres hg hh
      obtain ⟨w0, ew⟩ : ∃ w0 : World, w0 = w.alloc (.cells #[S rm, S rs, S ra, S rp, .slice pr l.length cr] 28) := ⟨_, rfl⟩
      obtain ⟨Z, eZ⟩ : ∃ Z, Z = w.heap.size := ⟨_, rfl⟩
      have hQ0 : Blk w0 Z 28 #[S rm, S rs, S ra, S rp, .slice pr l.length cr] := by rw [ew, eZ]; exact Blk.new _ _ _
      have hb0 : Below w.heap.size w w0 := by rw [ew]; exact (Below.refl _ _).alloc (Nat.le_refl _) _
      have h0 := (h.below hb0).mono hb0.size
      have HZ := Lib.hid eZ
      have HW := Lib.hid ew
      clear eZ ew h
      go_enter Tryz.func20, Tryz.ntmps20
      go_upto_region 1 with fail
      rw [← HZ.out, ← HW.out]
      (have x0 : w0.cell? ⟨Z, 0, none⟩ = some (S rm) := hQ0.cell 0; have x1 : w0.cell? ⟨Z, 1, none⟩ = some (S rs) := hQ0.cell 1; have x2 : w0.cell? ⟨Z, 2, none⟩ = some (S ra) := hQ0.cell 2; have x3 : w0.cell? ⟨Z, 3, none⟩ = some (S rp) := hQ0.cell 3; have x4 : w0.cell? ⟨Z, 4, none⟩ = some (.slice pr l.length cr) := hQ0.cell 4)
      go_wp2
      go_ret
      exact ⟨ret_bool (by rw [HA.out]), hb0⟩

end Go.Proofs.YtahapblgmehngaaGreatDoor

