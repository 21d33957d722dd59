/- The walk of the statement HopTwice. -/
import Derived.Test.YtjheelboadklhaaDoorLawa
import Derived.Test.YtjheelboadklhaaDoorHlaw
import Derived.Deep.RegionWith
namespace Go.Proofs.YtjheelboadklhaaDoor
open Go.RowKit Go.Dr

/-- What stays. -/
def keepP (named : List Bytes) (f : F) : Bool := !(among f.n own || among f.n named)
theorem strip_keep (l : List F) : strip l = l.filter (keepP (allOf l connection)) := by
  simp only [strip, without, List.filter_filter]
  congr 1
  funext f
  simp [keepP, Bool.not_or]
theorem own_connection {n : Bytes} (h : same n connection = true) : among n own = true := by
  unfold among own
  rw [List.any_cons, h]
  rfl
theorem strip_strip (l : List F) : strip (strip l) = strip l := by
  have hm : ∀ f ∈ strip l, among f.n own = false := fun f hf => (mem_without.1 hf).2
  have hv : values (strip l) connection = [] := values_none fun f hf => by
    cases hs : same f.n connection with
    | false => rfl
    | true => exact absurd (own_connection hs) (by rw [hm f hf]; exact Bool.false_ne_true)
  have ha : allOf (strip l) connection = [] := by simp [allOf, hv]
  have e1 : strip (strip l) = without (without (strip l) (allOf (strip l) connection)) own := rfl
  rw [e1, ha, without_none (l := strip l) (names := []) (fun _ _ => rfl), without_none hm]

set_option maxRecDepth 100000 in
set_option maxHeartbeats 8000000 in
theorem HopTwice_any (l : List F) (v : Value) (w : World) (h : Fs w.heap.size w v l) (hb : ∀ f ∈ l, f.n.length ≤ 140737488355328 ∧ f.v.length ≤ 140737488355328) :
    Calls Tryd.prog 4 #[v] w fun e w' => e = .returned (.bool true) ∧ Below w.heap.size w w' := by
  have HB := Lib.hid hb
  clear hb
  by_cases hbig : 16384 < fbytes l
  · have hq : decide (16384 < (fbytes l : Int)) = true := by rw [decide_eq_true_iff]; omega
    clear hbig
    go_enter Tryd.func4, Tryd.ntmps4
    go_wp2_with fail
    refine (awake_any _).mono ?_
    rintro e w1 ⟨rfl, hb1⟩
    go_wp2_with fail
    refine (FBytes_any l v _ ((h.below hb1).mono hb1.size) HB.out).mono ?_
    rintro e w2 ⟨rfl, hb2⟩
    go_wp2
    go_ret
    exact ⟨rfl, Bl.tr hb1 hb2⟩
  · have hq : decide (16384 < (fbytes l : Int)) = false := by rw [decide_eq_false_iff_not]; omega
    have hsum : fsum l ≤ 16384 := by rw [fbytes_sum l (by omega)]; omega
    clear hbig
    have hll := fsum_length l
    have hns := ssum_all l connection
    have hss : Hid (strip (strip l) = strip l) := strip_strip l
    have hfs : fsum (strip l) ≤ fsum l := by rw [strip_keep]; exact fsum_filter l _
    have HK := Lib.hid (strip_keep l)
    have hob := ssum_own
    go_enter Tryd.func4, Tryd.ntmps4
    go_wp2_with fail
    refine (awake_any _).mono ?_
    rintro e w1 ⟨rfl, hb1⟩
    go_wp2_with fail
    refine (FBytes_any l v _ ((h.below hb1).mono hb1.size) HB.out).mono ?_
    rintro e w2 ⟨rfl, hb2⟩
    have hw2 := Bl.tr hb1 hb2
    go_wp2_with fail
    refine (Strip_any l v _ ((h.below hw2).mono hw2.size) (by omega)).mono ?_
    rintro e w3 ⟨va, rfl, hva, hb3⟩
    have hr3 : Fs w3.heap.size w3 va (strip l) := Fs.own hva
    go_wp2_with fail
    refine (Strip_any (strip l) va _ hr3 (by omega)).mono ?_
    rintro e w4 ⟨vb, rfl, hvb, hb4⟩
    rw [hss.out] at hvb
    have hr4 : Fs w4.heap.size w4 vb (strip l) := Fs.own hvb
    have hr34 := (hr3.below hb4).mono hb4.size
    go_wp2_with fail
    refine (Fields_any _ _ _ _ _ hr34 hr4).mono ?_
    rintro e w5 ⟨rfl, hb5⟩
    have hbb : (strip l == strip l) = true := by simp
    have hw5 := Bl.tr (Bl.tr (Bl.tr hw2 hb3) hb4) hb5
    have hr5 := (hr34.below hb5).mono hb5.size
    go_wp2_with fail
    refine (All_any l connection v _ ((h.below hw5).mono hw5.size) (by omega) (by decide)).mono ?_
    rintro e w6 ⟨vn, rfl, hvn, hb6⟩
    have hw6 := Bl.tr hw5 hb6
    have hr6 := (hr5.below hb6).mono hb6.size
    have hn6 : Ss w6.heap.size w6 vn (allOf l connection) := Ss.own hvn
    have hl6 := (h.below hw6).mono hw6.size
    clear hva hvb hvn hr3 hr4 hr34 hr5 h hb1 hb2 hb3 hb4 hb5 hb6 hw2 hw5 hss HB
    generalize hA : strip l = a at *
    generalize allOf l connection = named at *
    clear hA
    obtain ⟨pl, cl, rfl, hml⟩ := hl6.form
    obtain ⟨pa, ca, rfl, hma⟩ := hr6.form
    have HL : Hid (a.length = (l.filter (keepP named)).length) := by show _ = _; rw [HK.out]
    go_wp2
    go_loopw [5, 6] (fun vt i wr => ∃ k : Nat, i = .int .i64 k ∧ k ≤ l.length ∧ vt = .int .i64 (((l.take k).filter (keepP named)).length : Nat) ∧ Below w6.heap.size w6 wr) (fun _ i _ => l.length - (intOf i).toNat)
    case atStart => exact ⟨0, rfl, Nat.zero_le _, rfl, Below.refl _ _⟩
    case round =>
      obtain ⟨k, rfl, hk, rfl, hbel⟩ := hrel
      by_cases hlt : k < l.length
      · obtain ⟨b, off, rfl, hbl, c0, c1, c2⟩ := (hl6.below hbel).at k hlt
        have hf := fsum_mem (List.getElem_mem hlt)
        have hbw : b < wr.heap.size := Nat.lt_of_lt_of_le hbl hbel.size
        have hnr := (hn6.below hbel).mono hbel.size
        have hz := hbel.size
        cases h1 : among l[k].n own with
        | true =>
          have HN := Lib.hid (kept_no (keepP named) l k hlt (by simp [keepP, h1]))
          generalize ((l.take k).filter (keepP named)).length = m at *
          go_wp2_with fail
          refine wp_region_held_drew (S := (fun w' => w'.cell? ⟨b, off + k * 3, none⟩ = some (S l[k].n))) (by kernel_rfl) c0 (fun hHeld => ?_)
          refine wpAnyH_take (i := 0) (v := ?_) (by rfl) (by kernel_rfl) (by kernel_rfl) (by kernel_rfl) (by exact fun _ _ _ h => h) (Or.inl ⟨by rfl, ?_⟩) hHeld ?_
          rotate_left
          · (intro w hSw; (try dsimp only at hSw); go_simp; try with_reducible rfl)
          simp only [Act.put, List.setIfInBounds_toArray, List.set_cons_zero, List.set_cons_succ]
          refine wpAnyH_take (i := 1) (v := ?_) (by rfl) (by kernel_rfl) (by kernel_rfl) (by kernel_rfl) (by exact fun _ _ _ h => h) (Or.inl ⟨by rfl, ?_⟩) hHeld ?_
          rotate_left
          · (intro w hSw; (try dsimp only at hSw); go_simp; try with_reducible rfl)
          simp only [Act.put, List.setIfInBounds_toArray, List.set_cons_zero, List.set_cons_succ]
          refine wpAnyH_take (i := 2) (v := ?_) (by rfl) (by kernel_rfl) (by kernel_rfl) (by kernel_rfl) (by exact fun _ _ _ h => h) (Or.inl ⟨by rfl, ?_⟩) hHeld ?_
          rotate_left
          · (intro w hSw; (try dsimp only at hSw); go_simp; try with_reducible rfl)
          simp only [Act.put, List.setIfInBounds_toArray, List.set_cons_zero, List.set_cons_succ]
          refine wpAnyH_take (i := 3) (v := ?_) (by rfl) (by kernel_rfl) (by kernel_rfl) (by kernel_rfl) (by exact fun _ _ _ h => h) (Or.inl ⟨by rfl, ?_⟩) hHeld ?_
          rotate_left
          · (intro w hSw; (try dsimp only at hSw); go_simp; try with_reducible rfl)
          simp only [Act.put, List.setIfInBounds_toArray, List.set_cons_zero, List.set_cons_succ]
          refine wpAnyH_take (i := 4) (v := ?_) (by rfl) (by kernel_rfl) (by kernel_rfl) (by kernel_rfl) (by exact fun _ _ _ h => h) (Or.inl ⟨by rfl, ?_⟩) hHeld ?_
          rotate_left
          · (intro w hSw; (try dsimp only at hSw); go_simp; try with_reducible rfl)
          simp only [Act.put, List.setIfInBounds_toArray, List.set_cons_zero, List.set_cons_succ]
          refine wpAnyH_ready (rs := [5]) (by kernel_rfl) (by simp) ?_
          refine AllReadyH.cons (by rfl) (fun K hK => ?_) AllReadyH.nil
          go_simp
          refine (Own_any _).mono ?_; rintro e w7 ⟨vo, rfl, hvo, hb7⟩; have c7 := (hb7.cell (p := ⟨b, off + k * 3, none⟩) hbw).trans c0
          refine hK.out _ _ c7 (fun hHeld => ?_)
          clear hK K
          try simp only [Act.put, List.setIfInBounds_toArray, List.set_cons_zero, List.set_cons_succ]
          refine wpAnyH_ready (rs := [6]) (by kernel_rfl) (by simp) ?_
          refine AllReadyH.cons (by rfl) (fun K hK => ?_) AllReadyH.nil
          go_simp
          refine (Among_at true _ own h1 _ _ (Ss.own hvo) (by omega) (by omega)).mono ?_; rintro e w8 ⟨rfl, hb8⟩; have c8 := (hb8.cell (p := ⟨b, off + k * 3, none⟩) (Nat.lt_of_lt_of_le hbw hb7.size)).trans c7
          refine hK.out _ _ c8 (fun hHeld => ?_)
          clear hK K
          try simp only [Act.put, List.setIfInBounds_toArray, List.set_cons_zero, List.set_cons_succ]
          refine wpAnyH_take (i := 7) (v := ?_) (by rfl) (by kernel_rfl) (by kernel_rfl) (by kernel_rfl) (by exact fun _ _ _ h => h) (Or.inl ⟨by rfl, ?_⟩) hHeld ?_
          rotate_left
          · (intro w hSw; (try dsimp only at hSw); go_simp; try with_reducible rfl)
          simp only [Act.put, List.setIfInBounds_toArray, List.set_cons_zero, List.set_cons_succ]
          refine wpAnyH_take (i := 8) (v := undef) (by rfl) (by kernel_rfl) (by kernel_rfl) (by kernel_rfl) (by exact fun _ _ _ h => h) (Or.inr ⟨by rfl, rfl⟩) hHeld ?_
          simp only [Act.put, List.setIfInBounds_toArray, List.set_cons_zero, List.set_cons_succ]
          refine wpAnyH_take (i := 9) (v := undef) (by rfl) (by kernel_rfl) (by kernel_rfl) (by kernel_rfl) (by exact fun _ _ _ h => h) (Or.inr ⟨by rfl, rfl⟩) hHeld ?_
          simp only [Act.put, List.setIfInBounds_toArray, List.set_cons_zero, List.set_cons_succ]
          refine wpAnyH_take (i := 10) (v := undef) (by rfl) (by kernel_rfl) (by kernel_rfl) (by kernel_rfl) (by exact fun _ _ _ h => h) (Or.inr ⟨by rfl, rfl⟩) hHeld ?_
          simp only [Act.put, List.setIfInBounds_toArray, List.set_cons_zero, List.set_cons_succ]
          refine wpAnyH_take (i := 11) (v := undef) (by rfl) (by kernel_rfl) (by kernel_rfl) (by kernel_rfl) (by exact fun _ _ _ h => h) (Or.inr ⟨by rfl, rfl⟩) hHeld ?_
          simp only [Act.put, List.setIfInBounds_toArray, List.set_cons_zero, List.set_cons_succ]
          refine wpAnyH_take (i := 12) (v := undef) (by rfl) (by kernel_rfl) (by kernel_rfl) (by kernel_rfl) (by exact fun _ _ _ h => h) (Or.inr ⟨by rfl, rfl⟩) hHeld ?_
          simp only [Act.put, List.setIfInBounds_toArray, List.set_cons_zero, List.set_cons_succ]
          refine wpAnyH_take (i := 13) (v := undef) (by rfl) (by kernel_rfl) (by kernel_rfl) (by kernel_rfl) (by exact fun _ _ _ h => h) (Or.inr ⟨by rfl, rfl⟩) hHeld ?_
          simp only [Act.put, List.setIfInBounds_toArray, List.set_cons_zero, List.set_cons_succ]
          refine wpAnyH_take (i := 14) (v := undef) (by rfl) (by kernel_rfl) (by kernel_rfl) (by kernel_rfl) (by exact fun _ _ _ h => h) (Or.inr ⟨by rfl, rfl⟩) hHeld ?_
          simp only [Act.put, List.setIfInBounds_toArray, List.set_cons_zero, List.set_cons_succ]
          refine wpAnyH_take (i := 15) (v := ?_) (by rfl) (by kernel_rfl) (by kernel_rfl) (by kernel_rfl) (by exact fun _ _ _ h => h) (Or.inl ⟨by rfl, ?_⟩) hHeld ?_
          rotate_left
          · (intro w hSw; (try dsimp only at hSw); go_simp; try with_reducible rfl)
          simp only [Act.put, List.setIfInBounds_toArray, List.set_cons_zero, List.set_cons_succ]
          refine wpAnyH_take (i := 16) (v := ?_) (by rfl) (by kernel_rfl) (by kernel_rfl) (by kernel_rfl) (by exact fun _ _ _ h => h) (Or.inl ⟨by rfl, ?_⟩) hHeld ?_
          rotate_left
          · (intro w hSw; (try dsimp only at hSw); go_simp; try with_reducible rfl)
          simp only [Act.put, List.setIfInBounds_toArray, List.set_cons_zero, List.set_cons_succ]
          refine wpAnyH_done (by kernel_rfl) ?_ _
          go_wp2
          go_roundw
          case rel => exact ⟨k + 1, by go_num, by omega, by rw [HN.out], hbel.drew.trans ((hb7.mono (B' := w6.heap.size) hz).trans (hb8.mono (Nat.le_trans hz hb7.size)))⟩
          case measure => simp [intOf]; omega
        | false =>
          cases h2 : among l[k].n named with
          | true =>
            have HN := Lib.hid (kept_no (keepP named) l k hlt (by simp [keepP, h2]))
            generalize ((l.take k).filter (keepP named)).length = m at *
            go_wp2_with fail
            go_region_held3 (fun w' => w'.cell? ⟨b, off + k * 3, none⟩ = some (S l[k].n))
              (first | go_keep)
              ((first
                | (go_at_call 18; refine (Own_any _).mono ?_; rintro e w7 ⟨vo, rfl, hvo, hb7⟩; have c7 := (hb7.cell (p := ⟨b, off + k * 3, none⟩) hbw).trans c0)
                | (go_at_call 17; refine (Among_at true _ named h2 _ _ (((((hnr.below (Below.refl _ _).drew).below hb7).mono hb7.size).below hb8).mono hb8.size) (by omega) (by omega)).mono ?_; rintro e w9 ⟨rfl, hb9⟩; have c9 := (hb9.cell (p := ⟨b, off + k * 3, none⟩) (Nat.lt_of_lt_of_le hbw (Nat.le_trans hb7.size hb8.size))).trans c8)
                | (go_at_call 17; refine (Among_at false _ own h1 _ _ (Ss.own hvo) (by omega) (by omega)).mono ?_; rintro e w8 ⟨rfl, hb8⟩; have c8 := (hb8.cell (p := ⟨b, off + k * 3, none⟩) (Nat.lt_of_lt_of_le hbw hb7.size)).trans c7)))
            go_wp2
            go_roundw
            case rel => exact ⟨k + 1, by go_num, by omega, by rw [HN.out], hbel.drew.trans ((hb7.mono (B' := w6.heap.size) hz).trans ((hb8.mono (Nat.le_trans hz hb7.size)).trans (hb9.mono (Nat.le_trans hz (Nat.le_trans hb7.size hb8.size)))))⟩
            case measure => simp [intOf]; omega
          | false =>
            have hkp : keepP named l[k] = true := by simp [keepP, h1, h2]
            have HN := Lib.hid (kept_yes (keepP named) l k hlt hkp)
            have hg := kept_get (keepP named) l k hlt hkp
            rw [← HK.out] at hg
            generalize ((l.take k).filter (keepP named)).length = m at *
            have hma2 : m < a.length := (List.getElem?_eq_some_iff.1 hg).1
            have he : a[m] = l[k] := by
              rw [List.getElem?_eq_getElem hma2] at hg
              exact Option.some.inj hg
            obtain ⟨b2, off2, rfl, hbl2, d0, d1, d2⟩ := (hr6.below hbel).at m hma2
            rw [he] at d0 d1 d2
            have hbw2 : b2 < wr.heap.size := Nat.lt_of_lt_of_le hbl2 hbel.size
            clear hg he
            have hge : decide ((a.length : Int) ≤ (m : Int)) = false := by rw [decide_eq_false_iff_not]; omega
            have hm0 : (0 : Int) ≤ (m : Int) := Int.natCast_nonneg _
            have hm1 : (m : Int) < (a.length : Int) := by omega
            have hk0 : (0 : Int) ≤ (k : Int) := Int.natCast_nonneg _
            have hk1 : (k : Int) < (l.length : Int) := by omega
            go_wp2_with fail
            go_region_held3 (fun w' => w'.cell? ⟨b, off + k * 3, none⟩ = some (S l[k].n))
              (first | go_keep)
              ((first
                | (go_at_call 18; refine (Own_any _).mono ?_; rintro e w7 ⟨vo, rfl, hvo, hb7⟩; have c7 := (hb7.cell (p := ⟨b, off + k * 3, none⟩) hbw).trans c0)
                | (go_at_call 17; refine (Among_at false _ named h2 _ _ (((((hnr.below (Below.refl _ _).drew).below hb7).mono hb7.size).below hb8).mono hb8.size) (by omega) (by omega)).mono ?_; rintro e w9 ⟨rfl, hb9⟩; have c9 := (hb9.cell (p := ⟨b, off + k * 3, none⟩) (Nat.lt_of_lt_of_le hbw (Nat.le_trans hb7.size hb8.size))).trans c8)
                | (go_at_call 17; refine (Among_at false _ own h1 _ _ (Ss.own hvo) (by omega) (by omega)).mono ?_; rintro e w8 ⟨rfl, hb8⟩; have c8 := (hb8.cell (p := ⟨b, off + k * 3, none⟩) (Nat.lt_of_lt_of_le hbw hb7.size)).trans c7)))
            have hb79 : Below wr.heap.size wr w9 := (Below.refl _ _).drew.trans (hb7.trans ((hb8.mono hb7.size).trans (hb9.mono (Nat.le_trans hb7.size hb8.size))))
            have x0 := (hb79.cell (p := ⟨b, off + k * 3, none⟩) hbw).trans c0
            have x1 := (hb79.cell (p := ⟨b, off + k * 3 + 1, none⟩) hbw).trans c1
            have x2 := (hb79.cell (p := ⟨b, off + k * 3 + 2, none⟩) hbw).trans c2
            have y0 := (hb79.cell (p := ⟨b2, off2 + m * 3, none⟩) hbw2).trans d0
            have y1 := (hb79.cell (p := ⟨b2, off2 + m * 3 + 1, none⟩) hbw2).trans d1
            have y2 := (hb79.cell (p := ⟨b2, off2 + m * 3 + 2, none⟩) hbw2).trans d2
            have hbl9 : Below w6.heap.size w6 w9 := hbel.drew.trans ((hb7.mono (B' := w6.heap.size) hz).trans ((hb8.mono (Nat.le_trans hz hb7.size)).trans (hb9.mono (Nat.le_trans hz (Nat.le_trans hb7.size hb8.size)))))
            clear c0 c1 c2 d0 d1 d2 c7 c8 c9 hb7 hb8 hb9 hb79
            go_wp2_with fail
            go_quiet (fail)
            go_wp2
            go_roundw
            case rel => exact ⟨k + 1, by go_num, by omega, by rw [HN.out]; go_num, below_drewN hbl9 _⟩
            case measure => simp [intOf]; omega
      · have hk' : k = l.length := by omega
        subst hk'
        rw [List.take_length]
        have hq2 : (((l.filter (keepP named)).length : Int) == (a.length : Int)) = true := i_eq HL.out.symm
        go_wp2
        go_ret
        exact ⟨rfl, Bl.tr hw6 hbel⟩

end Go.Proofs.YtjheelboadklhaaDoor
