
/- The walks of layer 20, fourth part: nought as digits; what the client has already; an answer to one that has it. -/
import Derived.Test.YtpbmmkonlboegaaDoorRen3
namespace Go.Proofs.YtpbmmkonlboegaaDoor
open Go.RowKit Go.Dr

set_option maxRecDepth 100000 in
set_option maxHeartbeats 1000000 in
theorem digitsZero_any (w : World) : Calls Tryd.prog 69 #[.int .i64 0, .int .i64 10] w fun e w' => e = .returned (S [48]) ∧ Below w.heap.size w w' := by
  have hcv : ∀ w' : World, w'.cell? ⟨w.heap.size, 63, none⟩ = some (.int .u8 48) → (convert 84 9 (.slice (some ⟨w.heap.size, 63, none⟩) 1 1)).run Tryd.prog w' = .ok (S [48]) w' := fun w' hc =>
    run_convert_bytes_back w' _ _ 5 ⟨w.heap.size, 63, none⟩ 1 [48] Tryd.underlying84 Tryd.underlying5 Tryd.underlying9 (fun j hj => by
      have : j = 0 := by simp at hj; omega
      subst this
      rw [Addr.add_lit]
      exact hc)
  go_enter Tryd.func69, Tryd.ntmps69
  go_wp2
  refine wp_loop_rounds 1 ?_
  rw [rounds_succ]
  go_wp2
  go_ret
  exact ⟨rfl, ((Below.refl _ _).alloc (Nat.le_refl _) _)⟩

theorem DigitsZero_any (w : World) : Calls Tryd.prog 46 #[.int .i64 0] w fun e w' => e = .returned (S [48]) ∧ Below w.heap.size w w' := by
  go_enter Tryd.func46, Tryd.ntmps46
  go_wp2_with fail
  refine (digitsZero_any w).mono ?_
  rintro e w1 ⟨rfl, hb1⟩
  go_wp2
  go_ret
  exact ⟨rfl, hb1⟩

/-- Has the client what the tag says? -/
def metT (tags : List Bytes) (ok : Bool) (tag : Bytes) : Bool := tags.any fun t => t == [42] || (ok && alikeB t tag)
theorem metT_at {tags : List Bytes} {ok : Bool} {tag : Bytes} {k : Nat} (h : k < tags.length) (e : (tags[k] == [42] || (ok && alikeB tags[k] tag)) = true) : metT tags ok tag = true := by
  rw [metT, List.any_eq_true]
  exact ⟨_, List.getElem_mem h, e⟩
def NoMet (tags : List Bytes) (ok : Bool) (tag : Bytes) (k : Nat) : Prop := ∀ j (h : j < tags.length), j < k → (tags[j] == [42] || (ok && alikeB tags[j] tag)) = false
theorem NoMet.zero (tags : List Bytes) (ok : Bool) (tag : Bytes) : NoMet tags ok tag 0 := fun _ _ h => by omega
theorem NoMet.succ {tags : List Bytes} {ok : Bool} {tag : Bytes} {k : Nat} (h : NoMet tags ok tag k) (hk : k < tags.length) (e : (tags[k] == [42] || (ok && alikeB tags[k] tag)) = false) : NoMet tags ok tag (k + 1) := fun j hj hlt => by
  by_cases e2 : j = k
  · subst e2; exact e
  · exact h j hj (by omega)
theorem NoMet.all {tags : List Bytes} {ok : Bool} {tag : Bytes} (h : NoMet tags ok tag tags.length) : metT tags ok tag = false := by
  rw [metT, List.any_eq_false]
  intro x hx
  obtain ⟨k, hk, rfl⟩ := List.mem_iff_getElem.1 hx
  simpa using h k hk hk

set_option maxRecDepth 100000 in
set_option maxHeartbeats 4000000 in
theorem metTag_any (r : Rq) (q : En) (lr lf : List F) (hm : r.m = [71, 69, 84] ∨ r.m = [72, 69, 65, 68]) (hst : q.st = 200) (hi : hasB lr ifNoneT = true) (w : World) (hr : Fs w.heap.size w r.v lr) (hf : Fs w.heap.size w q.vf lf) (hl : fsum lr ≤ 1099511627776) (hl2 : fsum lf ≤ 1099511627776) :
    Calls Tryd.prog 48 #[r.val, q.val] w fun e w' => e = .returned (.bool (metT (allOf lr ifNoneT) (oneB (values lf etagT)) (oneV (values lf etagT)))) ∧ Below w.heap.size w w' := by
  obtain ⟨pr, cr, hrv, -⟩ := hr.form
  obtain ⟨pf, cf, hfv, -⟩ := hf.form
  obtain ⟨rm, rs, ra, rp, rv⟩ := r
  obtain ⟨key, vp, st, vf, body, asked, came⟩ := q
  simp only at hrv hfv hr hf hm hst
  subst hrv hfv hst
  have hR := Blk.new w 34 #[S rm, S rs, S ra, S rp, .slice pr lr.length cr]
  have hbx : Below w.heap.size w (w.alloc (.cells #[S rm, S rs, S ra, S rp, .slice pr lr.length cr] 34)) := (Below.refl _ _).alloc (Nat.le_refl _) _
  have hQ := Blk.new (w.alloc (.cells #[S rm, S rs, S ra, S rp, .slice pr lr.length cr] 34)) 25 #[S key, vp, .int .i64 200, .slice pf lf.length cf, S body, .int .i64 asked, .int .i64 came]
  have hby := hbx.alloc hbx.size (.cells #[S key, vp, .int .i64 200, .slice pf lf.length cf, S body, .int .i64 asked, .int .i64 came] 25)
  have hr1 := (hr.below hby).mono hby.size
  have hf1 := (hf.below hby).mono hby.size
  have HI := Lib.hid hi
  have HT := ssum_all lr ifNoneT
  have HO := oneV_length (values lf etagT)
  have HV := ssum_values lf etagT
  clear hi hr hf hR hQ hbx
  simp only [Rq.val, En.val]
  have hme : ∃ b : Bool, (!rm == [71, 69, 84]) = b ∧ (b = true → (!rm == [72, 69, 65, 68]) = false) := by
    rcases hm with e | e
    · exact ⟨false, by simp [e], by simp⟩
    · exact ⟨true, by simp [e], fun _ => by simp [e]⟩
  obtain ⟨bm, hb1, hb2⟩ := hme
  clear hm
  cases bm
  all_goals
    first | have hb3 := hb2 rfl | skip
    clear hb2
    go_enter Tryd.func48, Tryd.ntmps48
    go_wp2_with fail
    go_quiet (fail)
    go_wp2_with fail
    have hr2 := hr1.drewN nq
    have hf2 := hf1.drewN nq
    have hw2 := Bl.drewN hby nq
    clear hr1 hf1 hby
    generalize ((w.alloc (.cells #[S rm, S rs, S ra, S rp, .slice pr lr.length cr] 34)).alloc (.cells #[S key, vp, .int .i64 200, .slice pf lf.length cf, S body, .int .i64 asked, .int .i64 came] 25)).drewN nq = w2 at *
    refine (has_any lr ifNoneT _ _ hr2 hl (by decide)).mono ?_
    rintro e w3 ⟨rfl, hb3⟩
    rw [HI.out]
    have hw3 := Bl.tr hw2 hb3
    have hr3 := (hr2.below hb3).mono hb3.size
    have hf3 := (hf2.below hb3).mono hb3.size
    clear hw2 hr2 hf2 hb3
    go_wp2_with fail
    refine (one_any lf etagT _ _ hf3 hl2 (by decide)).mono ?_
    rintro e w4 ⟨rfl, hb4⟩
    have hw4 := Bl.tr hw3 hb4
    have hr4 := (hr3.below hb4).mono hb4.size
    clear hw3 hr3 hf3 hb4
    generalize htag : oneV (values lf etagT) = tag at *
    generalize hok : oneB (values lf etagT) = ok at *
    have Htag := Lib.hid htag
    have Hok := Lib.hid hok
    clear htag hok
    go_wp2_with fail
    refine (All_any lr ifNoneT _ _ hr4 hl (by decide)).mono ?_
    rintro e w5 ⟨vt, rfl, hvt, hb5⟩
    have hw5 := Bl.tr hw4 hb5
    have ht5 := Ss.own hvt
    generalize htags : allOf lr ifNoneT = tags at *
    have Htags := Lib.hid htags
    clear hw4 hr4 hb5 hvt htags
    obtain ⟨pt, ct, rfl, hmt⟩ := ht5.form
    go_wp2
    go_loopw [43] (fun i wr => ∃ k : Nat, i = .int .i64 k ∧ k ≤ tags.length ∧ Hid (NoMet tags ok tag k) ∧ wr = w5) (fun i _ => tags.length - (intOf i).toNat)
    case atStart => exact ⟨0, rfl, Nat.zero_le _, NoMet.zero _ _ _, rfl⟩
    case round =>
      obtain ⟨k, rfl, hk, HN, hwe⟩ := hrel
      obtain rfl : w5 = wr := hwe.symm
      by_cases hlt : k < tags.length
      · obtain ⟨b, off, rfl, hbb, c0⟩ := ht5.at k hlt
        have hf := ssum_mem (List.getElem_mem hlt)
        by_cases hs : tags[k] = [42]
        · have HT := Lib.hid (metT_at (ok := ok) (tag := tag) hlt (by simp [hs]))
          have g : (tags[k] == [42]) = true := by simp [hs]
          clear hs
          go_wp2
          go_ret
          exact ⟨ret_bool (by rw [Htags.out, Htag.out, Hok.out]; exact HT.out.symm), hw5⟩
        · have g : (tags[k] == [42]) = false := by simp [hs]
          cases ok with
          | false =>
            have HN2 := Lib.hid (HN.out.succ hlt (by simp [hs]))
            clear hs
            go_wp2
            go_roundw
            case rel => exact ⟨k + 1, by go_num, by omega, HN2, trivial⟩
            case measure => simp [intOf]; omega
          | true =>
            cases ha : alikeB tags[k] tag with
            | true =>
              have HT := Lib.hid (metT_at (ok := true) (tag := tag) hlt (by simp [ha]))
              have HA := Lib.hid ha
              clear hs ha
              go_wp2_with fail
              refine (alike_any tags[k] tag w5).mono ?_
              rintro e w6 ⟨rfl, rfl⟩
              rw [HA.out]
              go_wp2
              go_ret
              exact ⟨ret_bool (by rw [Htags.out, Htag.out, Hok.out]; exact HT.out.symm), hw5⟩
            | false =>
              have HN2 := Lib.hid (HN.out.succ hlt (by simp [hs, ha]))
              have HA := Lib.hid ha
              clear hs ha
              go_wp2_with fail
              refine (alike_any tags[k] tag w5).mono ?_
              rintro e w6 ⟨rfl, rfl⟩
              rw [HA.out]
              go_wp2
              go_roundw
              case rel => exact ⟨k + 1, by go_num, by omega, HN2, trivial⟩
              case measure => simp [intOf]; omega
      · have hk' : k = tags.length := by omega
        subst hk'
        have HT := Lib.hid HN.out.all
        go_wp2
        go_ret
        exact ⟨ret_bool (by rw [Htags.out, Htag.out, Hok.out]; exact HT.out.symm), hw5⟩
end Go.Proofs.YtpbmmkonlboegaaDoor
