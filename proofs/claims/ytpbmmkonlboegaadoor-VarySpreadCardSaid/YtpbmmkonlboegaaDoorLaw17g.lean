
/- VarySpread: the walk. -/
import Derived.Test.YtpbmmkonlboegaaDoorLaw17f
import Derived.Test.YtpbmmkonlboegaaDoorOpen2
namespace Go.Proofs.YtpbmmkonlboegaaDoor
open Go.RowKit Go.Dr

/-- The law's end, from the loop on. -/
def Ends (w : World) (e : Ending) (w' : World) : Prop := e = .returned (.bool true) ∧ Below w.heap.size w w'

set_option maxRecDepth 100000 in
set_option maxHeartbeats 8000000 in
theorem VarySpread_any (l : List F) (name : Bytes) (o : F) (v : Value) (w : World) (h : Fs w.heap.size w v l) (hb : FOk l) (hn : name.length ≤ 140737488351232) (ho : o.n.length ≤ 140737488351232 ∧ o.v.length ≤ 140737488351232) :
    Calls Tryd.prog 10 #[v, S name, fval o] w fun e w' => e = .returned (.bool true) ∧ Below w.heap.size w w' := by
  have HB := Lib.hid hb
  clear hb
  obtain ⟨pa, ca, rfl, hm⟩ := h.form
  have hbx : Below w.heap.size w (w.alloc (.cells (fcl o) 31)) := (Below.refl _ _).alloc (Nat.le_refl _) _
  have hO := Blk.new w 31 (fcl o)
  have h0 := (h.below hbx).mono hbx.size
  clear h
  cases hs : smallB l with
  | false =>
    have HS := Lib.hid hs
    clear hs
    go_enter Tryd.func10, Tryd.ntmps10
    go_wp2_with fail
    refine (awake17_any _).mono ?_
    rintro e w1 ⟨rfl, hb1⟩
    go_wp2_with fail
    refine (small17_any l _ HS.out _ _ ((h0.below hb1).mono hb1.size) HB.out).mono ?_
    rintro e w2 ⟨rfl, hb2⟩
    go_wp2
    go_ret
    exact ⟨rfl, Bl.tr (Bl.tr hbx hb1) hb2⟩
  | true =>
  have hsum := smallB_sum hs
  have HS := Lib.hid hs
  clear hs
  by_cases n1 : 1000 < name.length
  · have g1 : decide ((1000 : Int) < (name.length : Int)) = true := by rw [decide_eq_true_iff]; omega
    clear n1
    go_enter Tryd.func10, Tryd.ntmps10
    go_wp2_with fail
    refine (awake17_any _).mono ?_
    rintro e w1 ⟨rfl, hb1⟩
    go_wp2_with fail
    refine (small17_any l _ HS.out _ _ ((h0.below hb1).mono hb1.size) HB.out).mono ?_
    rintro e w2 ⟨rfl, hb2⟩
    go_wp2
    go_ret
    exact ⟨rfl, Bl.tr (Bl.tr hbx hb1) hb2⟩
  have g1 : decide ((1000 : Int) < (name.length : Int)) = false := by rw [decide_eq_false_iff_not]; omega
  by_cases n2 : 1000 < o.n.length + o.v.length
  · have g2 : decide ((1000 : Int) < (o.n.length : Int) + (o.v.length : Int)) = true := by rw [decide_eq_true_iff]; omega
    clear n1 n2
    go_enter Tryd.func10, Tryd.ntmps10
    go_wp2_with fail
    refine (awake17_any _).mono ?_
    rintro e w1 ⟨rfl, hb1⟩
    have hO1 := hO.on hb1
    go_wp2_with fail
    refine (small17_any l _ HS.out _ _ ((h0.below hb1).mono hb1.size) HB.out).mono ?_
    rintro e w2 ⟨rfl, hb2⟩
    have hO2 := hO1.on hb2
    have c0 : w2.cell? ⟨w.heap.size, 0, none⟩ = some (S o.n) := hO2.cell 0
    have c1 : w2.cell? ⟨w.heap.size, 1, none⟩ = some (S o.v) := hO2.cell 1
    go_wp2
    go_ret
    exact ⟨rfl, Bl.tr (Bl.tr hbx hb1) hb2⟩
  have g2 : decide ((1000 : Int) < (o.n.length : Int) + (o.v.length : Int)) = false := by rw [decide_eq_false_iff_not]; omega
  have hnl : name.length ≤ 1000 := by omega
  have hol : o.n.length + o.v.length ≤ 1000 := by omega
  clear n1 n2
  have hll := fsum_length l
  go_enter Tryd.func10, Tryd.ntmps10
  go_wp2_with fail
  refine (awake17_any _).mono ?_
  rintro e w1 ⟨rfl, hb1⟩
  have hw1 := Bl.tr hbx hb1
  replace h0 := (h0.below hb1).mono hb1.size
  replace hO := hO.on hb1
  go_wp2_with fail
  refine (small17_any l _ HS.out _ _ h0 HB.out).mono ?_
  rintro e w2 ⟨rfl, hb2⟩
  have hw2 := Bl.tr hw1 hb2
  replace h0 := (h0.below hb2).mono hb2.size
  replace hO := hO.on hb2
  clear hb1 hb2 hbx hw1
  have c0 : w2.cell? ⟨w.heap.size, 0, none⟩ = some (S o.n) := hO.cell 0
  have c1 : w2.cell? ⟨w.heap.size, 1, none⟩ = some (S o.v) := hO.cell 1
  have hal : Below w2.heap.size w2 (w2.alloc (.cells #[S name] 9)) := (Below.refl _ _).alloc (Nat.le_refl _) _
  have hN : Ss (w2.alloc (.cells #[S name] 9)).heap.size (w2.alloc (.cells #[S name] 9)) (.slice (some ⟨w2.heap.size, 0, none⟩) 1 1) [name] := (Rd.lit_at w2 w2.heap.size rfl 9 #[S name] 1 1 rfl (by decide)).mono (by simp)
  replace hO := hO.on hal
  have h1 := (h0.below hal).mono hal.size
  have hw3 := Bl.tr hw2 hal
  clear h0 hw2 hal
  go_wp2_with fail
  refine (Pick_any [name] l _ _ _ hN h1 (by omega) (by rw [ssum_one]; omega)).mono ?_
  rintro e w4 ⟨vp, rfl, hvp, hb4⟩
  rw [pickP_one] at hvp
  have hp := Fs.own hvp
  have hw4 := Bl.tr hw3 hb4
  replace h1 := (h1.below hb4).mono hb4.size
  replace hO := hO.on hb4
  clear hN hw3 hvp hb4
  obtain ⟨pp, cp, rfl, -⟩ := hp.form
  have c0 : w4.cell? ⟨w.heap.size, 0, none⟩ = some (S o.n) := hO.cell 0
  go_wp2_with fail
  refine (refLower_any o.n w4 (by omega)).mono ?_
  rintro e w5 ⟨rfl, hb5⟩
  have hw5 := Bl.tr hw4 hb5
  replace h1 := (h1.below hb5).mono hb5.size
  replace hp := (hp.below hb5).mono hb5.size
  replace hO := hO.on hb5
  clear hw4 hb5
  go_wp2_with fail
  refine (refLower_any name w5 (by omega)).mono ?_
  rintro e w6 ⟨rfl, hb6⟩
  have hw6 := Bl.tr hw5 hb6
  replace h1 := (h1.below hb6).mono hb6.size
  replace hp := (hp.below hb6).mono hb6.size
  replace hO := hO.on hb6
  clear hw5 hb6 c0 c1
  have HPL : Hid (∀ p ∈ [saysF name l], p.n.length ≤ 549755813888) := fun p hp => by
    obtain rfl := List.mem_singleton.1 hp
    show (low name).length ≤ _
    rw [low_length]; omega
  have HM2 := Lib.hid (match_spread name l)
  have HM3 := Lib.hid (match_more name l)
  have hfs := fsum_spread name l
  have hls := length_spread name l
  have hmain : ∀ wz : World, Below w.heap.size w wz → Fs wz.heap.size wz (.slice pa l.length ca) l → Fs wz.heap.size wz (.slice pp [saysF name l].length cp) [saysF name l] → True := fun _ _ _ _ => trivial
  clear hmain
  by_cases hlo : low o.n = low name
  · have g3 : (!low o.n == low name) = false := by simp [hlo]
    clear hlo
    generalize low o.n = q1 at *
    obtain ⟨wz, rfl⟩ : ∃ wz : World, wz = w6 := ⟨_, rfl⟩
    have hwz := hw6
    have hz := h1
    have hpz := hp
    have hlw := hw6
    go_wp2
    go_loopw [8, 9] (fun v' i wr => ∃ k : Nat, i = .int .i64 k ∧ k ≤ l.length ∧ wr.ownsRow wz.heap.size 31 3 v' (spread name (l.take k)).length (fcells (spread name (l.take k))) ∧ Below wz.heap.size wz wr) (fun _ i _ => l.length - (intOf i).toNat)
    case atStart => exact ⟨0, rfl, Nat.zero_le _, World.ownsRow_nil _ _ _ _, Below.refl _ _⟩
    case round =>
      obtain ⟨k, rfl, hk, hown, hbel⟩ := hrel
      by_cases hlt : k < l.length
      · obtain ⟨b, off, rfl, hbb, c0, c1, c2⟩ := (hz.below hbel).at k hlt
        have hf := fsum_mem (List.getElem_mem hlt)
        have HV := Lib.hid (spread_snoc name l k hlt)
        have hsl := length_spread name (l.take k)
        rw [List.length_take] at hsl
        have hsl2 : (spread name (l.take k)).length ≤ 2 * k := by omega
        clear hsl
        have hz0 := hbel.size
        have hZ0 := Blk.new wr 31 (fcl l[k])
        generalize spread name (l.take k) = out at *
        go_wp2_with fail
        refine (refLower_any l[k].n _ (by omega)).mono ?_
        rintro e wa ⟨rfl, hba⟩
        have hZa := hZ0.on hba
        have hZb := hZa.set 0 (S (low l[k].n))
        simp at hZb
        have hbr : Below wr.heap.size wr (wa.setCell ⟨wr.heap.size, 0, none⟩ (S (low l[k].n))) := (((Below.refl _ _).alloc (Nat.le_refl _) _).trans (hba.mono (by simp))).setCell (Nat.le_refl _) _
        have e0 : wa.cell? ⟨wr.heap.size, 0, none⟩ = some (S l[k].n) := hZa.cell 0
        have ef := hZa.free 0
        go_wp2_with fail
        change Code.wp _ _ _ _ (wa.setCell ⟨wr.heap.size, 0, none⟩ (S (low l[k].n)))
        have hownb := own_below hown hbr
        have hbelb := hbel.trans (hbr.mono hz0)
        clear hba hZ0 hZa e0 ef
        generalize wa.setCell ⟨wr.heap.size, 0, none⟩ (S (low l[k].n)) = wb at *
        have hzb := hbr.size
        have d0 : wb.cell? ⟨wr.heap.size, 0, none⟩ = some (S (low l[k].n)) := hZb.cell 0
        go_wp2_with fail
        by_cases hnm : low l[k].n = low name
        · have g4 : (low l[k].n == low name) = true := by simp [hnm]
          have HV2 : Hid (spread name (l.take (k + 1)) = out ++ [⟨low l[k].n, [32, 44], false⟩] ++ [⟨low l[k].n, l[k].v, l[k].m⟩]) := by show _ = _; rw [HV.out, spreadF, if_pos hnm]; simp
          clear hnm HV
          generalize low l[k].n = q at *
          go_region_held3 (fun w' => w'.cell? ⟨wr.heap.size, 0, none⟩ = some (S q))
            (first | go_keep)
            ((go_at_call 35; refine (refLower_any name _ (by omega)).mono ?_; rintro e wc ⟨rfl, hbc⟩; replace hbc := Bl.undrew hbc; have hZc := hZb.on hbc; have d0 : wc.cell? ⟨wr.heap.size, 0, none⟩ = some (S q) := hZc.cell 0))
          have hownc := own_below hownb hbc
          have hzc := hbc.size
          go_wp2_with (first
            | (at_builtin; refine wpList_appF rfl _ _ 23 rfl wz.heap.size Tryd.underlying23 (by kernel_rfl) _ _ _ rfl hown1 rfl (by omega) (by omega) rfl ?_; intro a3 c3 we hown3 hbe hze)
            | (at_builtin; refine wpList_appFG rfl _ _ 23 rfl wz.heap.size Tryd.underlying23 (by kernel_rfl) _ _ _ rfl hownc rfl (by omega) (by omega) rfl ?_; intro a2 c2' wd hown1 hbd hzd hgd; have hZd := (hZc.alloc (.cells #[S q, S [32, 44], .bool false] 31)).grow hgd (own_ne hown (Nat.le_refl _)); have f0 : wd.cell? ⟨wr.heap.size, 0, none⟩ = some (S q) := hZd.cell 0; have f1 : wd.cell? ⟨wr.heap.size, 1, none⟩ = some (S l[k].v) := hZd.cell 1; have f2 : wd.cell? ⟨wr.heap.size, 2, none⟩ = some (.bool l[k].m) := hZd.cell 2))
          go_roundw
          case rel => exact ⟨k + 1, by go_num, by omega, by rw [HV2.out, fcells_append, fcells_append, List.length_append, List.length_append]; exact hown3, ((hbelb.trans (hbc.mono (by omega))).trans hbd).trans hbe⟩
          case measure => simp [intOf]; omega
        · have g4 : (low l[k].n == low name) = false := by simp [hnm]
          have HV2 : Hid (spread name (l.take (k + 1)) = out ++ [⟨low l[k].n, l[k].v, l[k].m⟩]) := by show _ = _; rw [HV.out, spreadF, if_neg hnm]; simp
          clear hnm HV
          generalize low l[k].n = q at *
          go_region_held3 (fun w' => w'.cell? ⟨wr.heap.size, 0, none⟩ = some (S q))
            (first | go_keep)
            ((go_at_call 35; refine (refLower_any name _ (by omega)).mono ?_; rintro e wc ⟨rfl, hbc⟩; replace hbc := Bl.undrew hbc; have hZc := hZb.on hbc; have d0 : wc.cell? ⟨wr.heap.size, 0, none⟩ = some (S q) := hZc.cell 0))
          have hownc := own_below hownb hbc
          have hzc := hbc.size
          have d1 : wc.cell? ⟨wr.heap.size, 1, none⟩ = some (S l[k].v) := hZc.cell 1
          have d2 : wc.cell? ⟨wr.heap.size, 2, none⟩ = some (.bool l[k].m) := hZc.cell 2
          go_wp2_with (at_builtin; refine wpList_appF rfl _ _ 23 rfl wz.heap.size Tryd.underlying23 (by kernel_rfl) _ _ _ rfl hownc rfl (by omega) (by omega) rfl ?_; intro a3 c3 we hown3 hbe hze)
          go_roundw
          case rel => exact ⟨k + 1, by go_num, by omega, by rw [HV2.out, fcells_append, List.length_append]; exact hown3, (hbelb.trans (hbc.mono (by omega))).trans hbe⟩
          case measure => simp [intOf]; omega
      · have hk' : k = l.length := by omega
        subst hk'
        rw [List.take_length] at hown
        have hF := Fs.own hown
        have hpr := (hpz.below hbel).mono hbel.size
        have hwr := Bl.tr hwz hbel
        go_wp2_with fail
        refine (Match_at _ _ _ HM2.out _ _ _ hpr hF (by omega) HPL.out).mono ?_
        rintro e wa ⟨rfl, hba⟩
        have howna := own_below hown hba
        have hpa := (hpr.below hba).mono hba.size
        have hwa := Bl.tr hwr hba
        have hza := hba.size
        have hzr := hbel.size
        have hzw : Below wz.heap.size wz wa := hbel.trans (hba.mono hzr)
        have HB9 : Hid (fsum (spread name l ++ [moreF name]) ≤ 1099511627776) := by show _ ≤ _; rw [fsum_append, fsum_one]; show _ + (name.length + 7 + 32) ≤ _; omega
        clear hF hpr hwr hba
        go_wp2_with (at_builtin; refine wpList_appF rfl _ _ 23 rfl wz.heap.size Tryd.underlying23 (by kernel_rfl) _ _ _ rfl howna rfl (by omega) (by omega) rfl ?_; intro a3 c3 we hown3 hbe hze)
        have hF3 : Fs we.heap.size we (.slice a3 ((spread name l).length + 1) c3) (spread name l ++ [moreF name]) := by have := Rd.own hown3; unfold Fs; rw [fcells_append, List.length_append]; exact this
        have hpl := (hpz.below (hzw.trans hbe)).mono (hzw.trans hbe).size
        have hwe := hwa.trans (hbe.mono hwz.size)
        refine (Match_at _ _ _ HM3.out _ _ _ (hpl) hF3 HB9.out HPL.out).mono ?_
        rintro e wg ⟨rfl, hbg⟩
        go_wp2
        go_ret
        exact ⟨rfl, Bl.tr hwe hbg⟩
  · have g3 : (!low o.n == low name) = true := by simpa using hlo
    have HM1 := Lib.hid (match_other name l o hlo)
    clear hlo
    generalize low o.n = q1 at *
    have hOl := hO.lt
    have HB9 : Hid (fsum (l ++ [o]) ≤ 1099511627776) := by show _ ≤ _; rw [fsum_append, fsum_one]; omega
    have k0 : w6.cell? ⟨w.heap.size, 0, none⟩ = some (S o.n) := hO.cell 0
    have k1 : w6.cell? ⟨w.heap.size, 1, none⟩ = some (S o.v) := hO.cell 1
    have k2 : w6.cell? ⟨w.heap.size, 2, none⟩ = some (.bool o.m) := hO.cell 2
    have hq : ¬ w.heap.size = w6.heap.size := by omega
    go_wp2_with fail
    go_region_held3 (fun w' => w'.cell? ⟨w.heap.size, 0, none⟩ = some (S o.n) ∧ w'.cell? ⟨w.heap.size, 1, none⟩ = some (S o.v) ∧ w'.cell? ⟨w.heap.size, 2, none⟩ = some (.bool o.m))
      (first | go_keep)
      ((first
        | (refine step_of ?_ (by rfl); refine wp_appG0 _ _ 23 rfl w6.heap.size 31 (.agg #[.string ByteArray.empty, .string ByteArray.empty, .bool false]) 3 40 Tryd.underlying23 (by kernel_rfl) rfl (by decide) _ rfl (by first | exact own_lit w6.drew w6.heap.size rfl w6.heap.size (Nat.le_refl _) _ _ | exact (own_lit w6.drew w6.heap.size rfl w6.heap.size (Nat.le_refl _) _ _).alloc _ | exact own_lit (w6.drew.alloc _) (w6.heap.size + 1) (by simp) w6.heap.size (by omega) _ _) _ _ _ _ rfl (by first | exact h1.below ((Below.refl _ _).drew.alloc (Nat.le_refl _) _) | exact h1.below (((Below.refl _ _).drew.alloc (Nat.le_refl _) _).alloc (by simp) _)) (fcells_one _) (by unfold maxLen; omega) (by omega) (by first | omega | (simp; done) | (simp; omega)) ?_; intro a8 c8 w8 hown8 hb8 hg8; have hz8 : w6.heap.size + 1 ≤ w8.heap.size := (by have := hb8.size; simp at this; omega); have hO8 : Blk w8 w.heap.size 31 (fcl o) := (by first | exact (hO.drew.alloc _).below hb8 hOl | exact ((hO.drew.alloc _).alloc _).below hb8 hOl); have k0 : w8.cell? ⟨w.heap.size, 0, none⟩ = some (S o.n) := hO8.cell 0; have k1 : w8.cell? ⟨w.heap.size, 1, none⟩ = some (S o.v) := hO8.cell 1; have k2 : w8.cell? ⟨w.heap.size, 2, none⟩ = some (.bool o.m) := hO8.cell 2; have tok8 := True.intro) | (refine step_of ?_ (by rfl); refine wp_appG _ _ 23 rfl w6.heap.size 31 (.agg #[.string ByteArray.empty, .string ByteArray.empty, .bool false]) 3 40 Tryd.underlying23 (by kernel_rfl) rfl (by decide) _ _ _ rfl (by first | exact hown8.alloc _ | exact hown8) _ _ _ _ rfl (by first | exact (show Rd _ _ 3 _ 1 (fcells [o]) from Rd.lit w8 31 #[S o.n, S o.v, .bool o.m] 3 1 rfl (by decide)) | exact (show Rd _ _ 3 _ 1 (fcells [o]) from (Rd.lit_at (w6.drew.alloc (.cells #[] 31)) (w6.heap.size + 1) (by simp) 31 #[S o.n, S o.v, .bool o.m] 3 1 rfl (by decide)).block (B' := w8.heap.size) (hg8.block _ (by simp) (by show some _ ≠ some w6.heap.size; simp)) (by have q : w6.heap.size + 1 + 1 ≤ w8.heap.size := (by have := hg8.size; simpa using this); omega)) | exact (show Rd _ _ 3 _ 1 (fcells [o]) from (Rd.lit_at w6 w6.heap.size rfl 31 #[S o.n, S o.v, .bool o.m] 3 1 rfl (by decide)).block (B' := w8.heap.size) ((hg8.block w6.heap.size (by simp; omega) (by show some _ ≠ some (w6.heap.size + 1); simp)).trans (Below.heap_alloc (w6.alloc (.cells #[S o.n, S o.v, .bool o.m] 31)) _ w6.heap.size (by simp))) (by have q : w6.heap.size + 1 + 1 ≤ w8.heap.size := (by have := hg8.size; simpa using this); omega))) (fcells_one _) (by unfold maxLen; omega) (by omega) (by first | omega | (simp; done) | (simp; omega)) ?_; intro a9 c9 w9 hown9 hb9 hg9; have hw9 : Below w6.heap.size w6 w9 := (by first | exact (((((Below.refl w6.heap.size w6).drew.alloc (Nat.le_refl _) _).trans hb8).alloc (by omega) _).trans hb9) | exact ((((Below.refl w6.heap.size w6).drew.alloc (Nat.le_refl _) _).alloc (by simp) _).trans hb8).trans hb9); have hF9 : Fs w9.heap.size w9 (.slice a9 (l.length + 1) c9) (l ++ [o]) := (by have := Rd.own hown9; unfold Fs; rw [fcells_append, List.length_append]; exact this); have hO9 := hO.on hw9; have k0 : w9.cell? ⟨w.heap.size, 0, none⟩ = some (S o.n) := hO9.cell 0; have k1 : w9.cell? ⟨w.heap.size, 1, none⟩ = some (S o.v) := hO9.cell 1; have k2 : w9.cell? ⟨w.heap.size, 2, none⟩ = some (.bool o.m) := hO9.cell 2)
        | (go_at_call 33; refine (Match_at _ _ _ HM1.out _ _ _ (by exact (hp.below hw9).mono hw9.size) (by exact hF9) HB9.out HPL.out).mono ?_; rintro e w10 ⟨rfl, hb10⟩; have hO10 := hO9.on hb10; have k0 : w10.cell? ⟨w.heap.size, 0, none⟩ = some (S o.n) := hO10.cell 0; have k1 : w10.cell? ⟨w.heap.size, 1, none⟩ = some (S o.v) := hO10.cell 1; have k2 : w10.cell? ⟨w.heap.size, 2, none⟩ = some (.bool o.m) := hO10.cell 2)))
    all_goals
      have h610 : Below w6.heap.size w6 w10 := Bl.tr hw9 hb10
      have hwz := Bl.tr hw6 h610
      have hz := (h1.below h610).mono h610.size
      have hpz := (hp.below h610).mono h610.size
      clear k0 k1 k2 hO9 hO10 hF9 hown9 hown8 hb8 hb9 hg8 hg9 hw9 hb10 h610 HM1 HB9 hq
      obtain ⟨wz, rfl⟩ : ∃ wz : World, wz = w10 := ⟨_, rfl⟩
      have hlw := hw6
      go_wp2
      go_loopw [8, 9] (fun v' i wr => ∃ k : Nat, i = .int .i64 k ∧ k ≤ l.length ∧ wr.ownsRow wz.heap.size 31 3 v' (spread name (l.take k)).length (fcells (spread name (l.take k))) ∧ Below wz.heap.size wz wr) (fun _ i _ => l.length - (intOf i).toNat)
      case atStart => exact ⟨0, rfl, Nat.zero_le _, World.ownsRow_nil _ _ _ _, Below.refl _ _⟩
      case round =>
        obtain ⟨k, rfl, hk, hown, hbel⟩ := hrel
        by_cases hlt : k < l.length
        · obtain ⟨b, off, rfl, hbb, c0, c1, c2⟩ := (hz.below hbel).at k hlt
          have hf := fsum_mem (List.getElem_mem hlt)
          have HV := Lib.hid (spread_snoc name l k hlt)
          have hsl := length_spread name (l.take k)
          rw [List.length_take] at hsl
          have hsl2 : (spread name (l.take k)).length ≤ 2 * k := by omega
          clear hsl
          have hz0 := hbel.size
          have hZ0 := Blk.new wr 31 (fcl l[k])
          generalize spread name (l.take k) = out at *
          go_wp2_with fail
          refine (refLower_any l[k].n _ (by omega)).mono ?_
          rintro e wa ⟨rfl, hba⟩
          have hZa := hZ0.on hba
          have hZb := hZa.set 0 (S (low l[k].n))
          simp at hZb
          have hbr : Below wr.heap.size wr (wa.setCell ⟨wr.heap.size, 0, none⟩ (S (low l[k].n))) := (((Below.refl _ _).alloc (Nat.le_refl _) _).trans (hba.mono (by simp))).setCell (Nat.le_refl _) _
          have e0 : wa.cell? ⟨wr.heap.size, 0, none⟩ = some (S l[k].n) := hZa.cell 0
          have ef := hZa.free 0
          go_wp2_with fail
          change Code.wp _ _ _ _ (wa.setCell ⟨wr.heap.size, 0, none⟩ (S (low l[k].n)))
          have hownb := own_below hown hbr
          have hbelb := hbel.trans (hbr.mono hz0)
          clear hba hZ0 hZa e0 ef
          generalize wa.setCell ⟨wr.heap.size, 0, none⟩ (S (low l[k].n)) = wb at *
          have hzb := hbr.size
          have d0 : wb.cell? ⟨wr.heap.size, 0, none⟩ = some (S (low l[k].n)) := hZb.cell 0
          go_wp2_with fail
          by_cases hnm : low l[k].n = low name
          · have g4 : (low l[k].n == low name) = true := by simp [hnm]
            have HV2 : Hid (spread name (l.take (k + 1)) = out ++ [⟨low l[k].n, [32, 44], false⟩] ++ [⟨low l[k].n, l[k].v, l[k].m⟩]) := by show _ = _; rw [HV.out, spreadF, if_pos hnm]; simp
            clear hnm HV
            generalize low l[k].n = q at *
            go_region_held3 (fun w' => w'.cell? ⟨wr.heap.size, 0, none⟩ = some (S q))
              (first | go_keep)
              ((go_at_call 35; refine (refLower_any name _ (by omega)).mono ?_; rintro e wc ⟨rfl, hbc⟩; replace hbc := Bl.undrew hbc; have hZc := hZb.on hbc; have d0 : wc.cell? ⟨wr.heap.size, 0, none⟩ = some (S q) := hZc.cell 0))
            have hownc := own_below hownb hbc
            have hzc := hbc.size
            go_wp2_with (first
              | (at_builtin; refine wpList_appF rfl _ _ 23 rfl wz.heap.size Tryd.underlying23 (by kernel_rfl) _ _ _ rfl hown1 rfl (by omega) (by omega) rfl ?_; intro a3 c3 we hown3 hbe hze)
              | (at_builtin; refine wpList_appFG rfl _ _ 23 rfl wz.heap.size Tryd.underlying23 (by kernel_rfl) _ _ _ rfl hownc rfl (by omega) (by omega) rfl ?_; intro a2 c2' wd hown1 hbd hzd hgd; have hZd := (hZc.alloc (.cells #[S q, S [32, 44], .bool false] 31)).grow hgd (own_ne hown (Nat.le_refl _)); have f0 : wd.cell? ⟨wr.heap.size, 0, none⟩ = some (S q) := hZd.cell 0; have f1 : wd.cell? ⟨wr.heap.size, 1, none⟩ = some (S l[k].v) := hZd.cell 1; have f2 : wd.cell? ⟨wr.heap.size, 2, none⟩ = some (.bool l[k].m) := hZd.cell 2))
            go_roundw
            case rel => exact ⟨k + 1, by go_num, by omega, by rw [HV2.out, fcells_append, fcells_append, List.length_append, List.length_append]; exact hown3, ((hbelb.trans (hbc.mono (by omega))).trans hbd).trans hbe⟩
            case measure => simp [intOf]; omega
          · have g4 : (low l[k].n == low name) = false := by simp [hnm]
            have HV2 : Hid (spread name (l.take (k + 1)) = out ++ [⟨low l[k].n, l[k].v, l[k].m⟩]) := by show _ = _; rw [HV.out, spreadF, if_neg hnm]; simp
            clear hnm HV
            generalize low l[k].n = q at *
            go_region_held3 (fun w' => w'.cell? ⟨wr.heap.size, 0, none⟩ = some (S q))
              (first | go_keep)
              ((go_at_call 35; refine (refLower_any name _ (by omega)).mono ?_; rintro e wc ⟨rfl, hbc⟩; replace hbc := Bl.undrew hbc; have hZc := hZb.on hbc; have d0 : wc.cell? ⟨wr.heap.size, 0, none⟩ = some (S q) := hZc.cell 0))
            have hownc := own_below hownb hbc
            have hzc := hbc.size
            have d1 : wc.cell? ⟨wr.heap.size, 1, none⟩ = some (S l[k].v) := hZc.cell 1
            have d2 : wc.cell? ⟨wr.heap.size, 2, none⟩ = some (.bool l[k].m) := hZc.cell 2
            go_wp2_with (at_builtin; refine wpList_appF rfl _ _ 23 rfl wz.heap.size Tryd.underlying23 (by kernel_rfl) _ _ _ rfl hownc rfl (by omega) (by omega) rfl ?_; intro a3 c3 we hown3 hbe hze)
            go_roundw
            case rel => exact ⟨k + 1, by go_num, by omega, by rw [HV2.out, fcells_append, List.length_append]; exact hown3, (hbelb.trans (hbc.mono (by omega))).trans hbe⟩
            case measure => simp [intOf]; omega
        · have hk' : k = l.length := by omega
          subst hk'
          rw [List.take_length] at hown
          have hF := Fs.own hown
          have hpr := (hpz.below hbel).mono hbel.size
          have hwr := Bl.tr hwz hbel
          go_wp2_with fail
          refine (Match_at _ _ _ HM2.out _ _ _ hpr hF (by omega) HPL.out).mono ?_
          rintro e wa ⟨rfl, hba⟩
          have howna := own_below hown hba
          have hpa := (hpr.below hba).mono hba.size
          have hwa := Bl.tr hwr hba
          have hza := hba.size
          have hzr := hbel.size
          have hzw : Below wz.heap.size wz wa := hbel.trans (hba.mono hzr)
          have HB9 : Hid (fsum (spread name l ++ [moreF name]) ≤ 1099511627776) := by show _ ≤ _; rw [fsum_append, fsum_one]; show _ + (name.length + 7 + 32) ≤ _; omega
          clear hF hpr hwr hba
          go_wp2_with (at_builtin; refine wpList_appF rfl _ _ 23 rfl wz.heap.size Tryd.underlying23 (by kernel_rfl) _ _ _ rfl howna rfl (by omega) (by omega) rfl ?_; intro a3 c3 we hown3 hbe hze)
          have hF3 : Fs we.heap.size we (.slice a3 ((spread name l).length + 1) c3) (spread name l ++ [moreF name]) := by have := Rd.own hown3; unfold Fs; rw [fcells_append, List.length_append]; exact this
          have hpl := (hpz.below (hzw.trans hbe)).mono (hzw.trans hbe).size
          have hwe := hwa.trans (hbe.mono hwz.size)
          refine (Match_at _ _ _ HM3.out _ _ _ (hpl) hF3 HB9.out HPL.out).mono ?_
          rintro e wg ⟨rfl, hbg⟩
          go_wp2
          go_ret
          exact ⟨rfl, Bl.tr hwe hbg⟩
end Go.Proofs.YtpbmmkonlboegaaDoor
