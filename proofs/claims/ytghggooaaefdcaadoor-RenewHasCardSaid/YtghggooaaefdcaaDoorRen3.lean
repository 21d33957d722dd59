
/- The walks of layer 20, third part: what is told of an answer that the client has; an age that is nothing. -/
import Derived.Test.YtghggooaaefdcaaDoorRen1
import Derived.Test.YtghggooaaefdcaaDoorHop3
namespace Go.Dr
def toldNames : List Bytes := [[99, 97, 99, 104, 101, 45, 99, 111, 110, 116, 114, 111, 108], [99, 111, 110, 116, 101, 110, 116, 45, 108, 111, 99, 97, 116, 105, 111, 110], [100, 97, 116, 101], [101, 116, 97, 103], [101, 120, 112, 105, 114, 101, 115], [108, 97, 115, 116, 45, 109, 111, 100, 105, 102, 105, 101, 100], [118, 97, 114, 121]]
def toldB (f : F) : Bool := toldNames.contains (low f.n)
def dateT : Bytes := [100, 97, 116, 101]
def ageT : Bytes := [97, 103, 101]
theorem filter_snoc (p : F → Bool) (l : List F) (k : Nat) (h : k < l.length) : (l.take (k + 1)).filter p = (l.take k).filter p ++ (if p l[k] then [l[k]] else []) := by
  rw [take_snoc l k h, List.filter_append]
  congr 1
  by_cases hs : p l[k] = true <;> simp [hs]
end Go.Dr
namespace Go.Proofs.YtghggooaaefdcaaDoor
open Go.RowKit Go.Dr

set_option maxRecDepth 100000 in
set_option maxHeartbeats 1000000 in
theorem told_any (f : F) (b : Bool) (hb : toldB f = b) (w : World) (hf : f.n.length ≤ 1099511627776) :
    Calls Tryd.prog 66 #[.agg #[S f.n, S f.v, .bool f.m]] w fun e w' => e = .returned (.bool b) ∧ Below w.heap.size w w' := by
  have HY : Hid ((low f.n == [99, 97, 99, 104, 101, 45, 99, 111, 110, 116, 114, 111, 108] || (low f.n == [99, 111, 110, 116, 101, 110, 116, 45, 108, 111, 99, 97, 116, 105, 111, 110] || (low f.n == [100, 97, 116, 101] || (low f.n == [101, 116, 97, 103] || (low f.n == [101, 120, 112, 105, 114, 101, 115] || (low f.n == [108, 97, 115, 116, 45, 109, 111, 100, 105, 102, 105, 101, 100] || (low f.n == [118, 97, 114, 121] || false))))))) = b) := by
    rw [← hb]; rfl
  clear hb
  have hbx : Below w.heap.size w (w.alloc (.cells #[S f.n, S f.v, .bool f.m] 45)) := (Below.refl _ _).alloc (Nat.le_refl _) _
  go_enter Tryd.func66, Tryd.ntmps66
  go_wp2_with fail
  refine (Lower_any _ _ (by unfold maxLen; omega)).mono ?_
  rintro e w1 ⟨rfl, hb1⟩
  have hw1 := Bl.tr hbx hb1
  clear hbx hb1
  generalize low f.n = q at *
  go_wp2
  all_goals go_ret
  all_goals exact ⟨ret_bool (by rw [← HY.out]; clear HY; first | (simp [*]; done) | (exfalso; simp_all; done)), hw1⟩

set_option maxRecDepth 100000 in
set_option maxHeartbeats 2000000 in
theorem onlyTold_any (l : List F) (v : Value) (w : World) (h : Fs w.heap.size w v l) (hl : fsum l ≤ 1099511627776) :
    Calls Tryd.prog 65 #[v, .func (.func 66) #[] #[]] w (RetFs 45 w (l.filter toldB)) := by
  obtain ⟨pa, ca, rfl, hm⟩ := h.form
  have hll := fsum_length l
  go_enter Tryd.func65, Tryd.ntmps65
  go_wp2
  go_loopw [5, 10] (fun v' i wr => ∃ k : Nat, i = .int .i64 k ∧ k ≤ l.length ∧ wr.ownsRow w.heap.size 45 3 v' ((l.take k).filter toldB).length (fcells ((l.take k).filter toldB)) ∧ Below w.heap.size w wr) (fun _ i _ => l.length - (intOf i).toNat)
  case atStart => exact ⟨0, rfl, Nat.zero_le _, World.ownsRow_nil _ _ _ _, Below.refl _ _⟩
  case round =>
    obtain ⟨k, rfl, hk, hown, hbel⟩ := hrel
    by_cases hlt : k < l.length
    · obtain ⟨b, off, rfl, hbb, c0, c1, c2⟩ := (h.below hbel).at k hlt
      have hf := fsum_mem (List.getElem_mem hlt)
      have HV := Lib.hid (filter_snoc toldB l k hlt)
      have hvl : ((l.take k).filter toldB).length ≤ k := Nat.le_trans (List.length_filter_le _ _) (by simp; omega)
      have hz := hbel.size
      have hZ := Blk.new wr 45 #[S l[k].n, S l[k].v, .bool l[k].m]
      have hal : Below wr.heap.size wr (wr.alloc (.cells #[S l[k].n, S l[k].v, .bool l[k].m] 45)) := (Below.refl _ _).alloc (Nat.le_refl _) _
      generalize (l.take k).filter toldB = out at *
      cases hq : toldB l[k] with
      | true =>
        have HV : Hid ((l.take (k + 1)).filter toldB = out ++ [l[k]]) := by show _ = _; rw [HV.out, hq, if_pos rfl]
        have HQ := Lib.hid hq
        clear hq
        go_wp2_with fail
        refine (told_any l[k] _ HQ.out _ (by omega)).mono ?_
        rintro e w1 ⟨rfl, hb1⟩
        have hZ1 := hZ.on hb1
        have hw1 := Bl.tr hal hb1
        have hown1 := own_below hown hw1
        have hz1 := hw1.size
        have d0 : w1.cell? ⟨wr.heap.size, 0, none⟩ = some (S l[k].n) := hZ1.cell 0
        have d1 : w1.cell? ⟨wr.heap.size, 1, none⟩ = some (S l[k].v) := hZ1.cell 1
        have d2 : w1.cell? ⟨wr.heap.size, 2, none⟩ = some (.bool l[k].m) := hZ1.cell 2
        go_wp2_with (at_builtin; refine wpList_appF rfl _ _ 100 rfl w.heap.size Tryd.underlying100 (by kernel_rfl) _ _ _ rfl hown1 rfl (by omega) (by omega) rfl ?_; intro a2 c2' w2 hown2 hb2 hz2)
        go_roundw
        case rel => exact ⟨k + 1, by go_num, by omega, by rw [HV.out, fcells_append, List.length_append]; exact hown2, (hbel.trans (hw1.mono hz)).trans hb2⟩
        case measure => simp [intOf]; omega
      | false =>
        have HV : Hid ((l.take (k + 1)).filter toldB = out) := by show _ = _; rw [HV.out, hq]; simp
        have HQ := Lib.hid hq
        clear hq
        go_wp2_with fail
        refine (told_any l[k] _ HQ.out _ (by omega)).mono ?_
        rintro e w1 ⟨rfl, hb1⟩
        have hw1 := Bl.tr hal hb1
        have hown1 := own_below hown hw1
        go_wp2
        go_roundw
        case rel => exact ⟨k + 1, by go_num, by omega, by rw [HV.out]; exact hown1, hbel.trans (hw1.mono hz)⟩
        case measure => simp [intOf]; omega
    · have hk' : k = l.length := by omega
      subst hk'
      rw [List.take_length] at *
      go_wp2
      go_ret
      exact ⟨_, rfl, hown, hbel⟩

theorem clampZero_any (w : World) : Calls Tryd.prog 70 #[.int .i64 0] w fun e w' => e = .returned (.int .i64 0) ∧ w' = w := by
  go_enter Tryd.func70, Tryd.ntmps70
  go_wp2
  go_ret
  exact ⟨rfl, rfl⟩

set_option maxRecDepth 100000 in
theorem momentNone_any (q : En) (l : List F) (name : Bytes) (hv : values l name = []) (w : World) (h : Fs w.heap.size w q.vf l) (hl : fsum l ≤ 1099511627776) (hn : name.length ≤ 1099511627776) :
    Calls Tryd.prog 71 #[q.val, S name] w fun e w' => e = .returned (.tuple #[.int .i64 0, .bool false]) ∧ Below w.heap.size w w' := by
  obtain ⟨pf, cf, hfv, -⟩ := h.form
  obtain ⟨key, vp, st, vf, body, asked, came⟩ := q
  simp only at hfv h
  subst hfv
  have HV := Lib.hid hv
  clear hv
  have hQ := Blk.new w 28 (En.cells ⟨key, vp, st, .slice pf l.length cf, body, asked, came⟩)
  have hbx : Below w.heap.size w (w.alloc (.cells (En.cells ⟨key, vp, st, .slice pf l.length cf, body, asked, came⟩) 28)) := (Below.refl _ _).alloc (Nat.le_refl _) _
  have h1 := (h.below hbx).mono hbx.size
  unfold En.val
  go_enter Tryd.func71, Tryd.ntmps71
  go_wp2_with fail
  refine (Values_any l name _ _ h1 hl hn).mono ?_
  rintro e w1 ⟨vv, rfl, hvv, hb1⟩
  rw [HV.out] at hvv
  obtain ⟨pa, ca, rfl, hm⟩ := (Ss.own hvv).form
  go_wp2
  go_ret2
  exact ⟨rfl, Bl.tr hbx hb1⟩

set_option maxRecDepth 100000 in
theorem toldNone_any (q : En) (l : List F) (hv : values l ageT = []) (w : World) (h : Fs w.heap.size w q.vf l) (hl : fsum l ≤ 1099511627776) :
    Calls Tryd.prog 72 #[q.val] w fun e w' => e = .returned (.int .i64 0) ∧ Below w.heap.size w w' := by
  obtain ⟨pf, cf, hfv, -⟩ := h.form
  obtain ⟨key, vp, st, vf, body, asked, came⟩ := q
  simp only at hfv h
  subst hfv
  have HV := Lib.hid hv
  clear hv
  have hQ := Blk.new w 28 (En.cells ⟨key, vp, st, .slice pf l.length cf, body, asked, came⟩)
  have hbx : Below w.heap.size w (w.alloc (.cells (En.cells ⟨key, vp, st, .slice pf l.length cf, body, asked, came⟩) 28)) := (Below.refl _ _).alloc (Nat.le_refl _) _
  have h1 := (h.below hbx).mono hbx.size
  unfold En.val
  go_enter Tryd.func72, Tryd.ntmps72
  go_wp2_with fail
  refine (Values_any l ageT _ _ h1 hl (by decide)).mono ?_
  rintro e w1 ⟨vv, rfl, hvv, hb1⟩
  rw [HV.out] at hvv
  obtain ⟨pa, ca, rfl, hm⟩ := (Ss.own hvv).form
  go_wp2
  go_ret
  exact ⟨rfl, Bl.tr hbx hb1⟩

set_option maxRecDepth 100000 in
set_option maxHeartbeats 1000000 in
theorem AgeNone_any (key body : Bytes) (vp vf : Value) (st : Int) (l : List F) (hd : values l dateT = []) (hv : values l ageT = []) (w : World) (h : Fs w.heap.size w vf l) (hl : fsum l ≤ 1099511627776) :
    Calls Tryd.prog 39 #[.agg #[S key, vp, .int .i64 st, vf, S body, .int .i64 0, .int .i64 0], .int .i64 0] w fun e w' => e = .returned (.int .i64 0) ∧ Below w.heap.size w w' := by
  obtain ⟨pf, cf, rfl, -⟩ := h.form
  have HV := Lib.hid hv
  have HD := Lib.hid hd
  clear hv hd
  have hM := fun w h => momentNone_any ⟨key, vp, st, .slice pf l.length cf, body, 0, 0⟩ l dateT HD.out w h hl (by decide)
  have hT := fun w h => toldNone_any ⟨key, vp, st, .slice pf l.length cf, body, 0, 0⟩ l HV.out w h hl
  simp only [En.val] at hM hT
  have HM := Lib.hid hM
  have HT := Lib.hid hT
  clear hM hT
  have hQ := Blk.new w 28 #[S key, vp, .int .i64 st, .slice pf l.length cf, S body, .int .i64 0, .int .i64 0]
  have hbx : Below w.heap.size w (w.alloc (.cells #[S key, vp, .int .i64 st, .slice pf l.length cf, S body, .int .i64 0, .int .i64 0] 28)) := (Below.refl _ _).alloc (Nat.le_refl _) _
  have h1 := (h.below hbx).mono hbx.size
  go_enter Tryd.func39, Tryd.ntmps39
  go_wp2_with fail
  go_quiet ((go_at_call 70; exact Calls.quiet_of_same (clampZero_any _)))
  go_wp2_with fail
  have h2 := h1.drewN nq
  have hQ2 := hQ.drewN nq
  have hw2 := Bl.drewN hbx nq
  clear hQ h1 hbx h
  generalize (w.alloc (.cells #[S key, vp, .int .i64 st, .slice pf l.length cf, S body, .int .i64 0, .int .i64 0] 28)).drewN nq = w2 at *
  refine (HM.out w2 h2).mono ?_
  rintro e w3 ⟨rfl, hb3⟩
  have h3 := (h2.below hb3).mono hb3.size
  have hQ3 := hQ2.on hb3
  have hw3 := Bl.tr hw2 hb3
  have c0 := hQ3.cell 0
  have c1 := hQ3.cell 1
  have c2 := hQ3.cell 2
  have c3 := hQ3.cell 3
  have c4 := hQ3.cell 4
  have c5 := hQ3.cell 5
  have c6 := hQ3.cell 6
  simp at c0 c1 c2 c3 c4 c5 c6
  clear h2 hQ2 hw2 hb3
  go_wp2_with fail
  refine (HT.out w3 h3).mono ?_
  rintro e w4 ⟨rfl, hb4⟩
  have hw4 := Bl.tr hw3 hb4
  go_wp2_with fail
  refine (clampZero_any w4).mono ?_
  rintro e w5 ⟨rfl, hw5⟩
  obtain rfl : w4 = w5 := hw5.symm
  go_wp2
  go_ret
  exact ⟨rfl, hw4⟩
end Go.Proofs.YtghggooaaefdcaaDoor
namespace Go.Proofs.YtghggooaaefdcaaDoor
open Go.RowKit Go.Dr

set_option maxRecDepth 100000 in
set_option maxHeartbeats 1000000 in
theorem digitsZero_any (w : World) : Calls Tryd.prog 86 #[.int .i64 0, .int .i64 10] w fun e w' => e = .returned (S [48]) ∧ Below w.heap.size w w' := by
  have hcv : ∀ w' : World, w'.cell? ⟨w.heap.size, 63, none⟩ = some (.int .u8 48) → (convert 142 9 (.slice (some ⟨w.heap.size, 63, none⟩) 1 1)).run Tryd.prog w' = .ok (S [48]) w' := fun w' hc =>
    run_convert_bytes_back w' _ _ 5 ⟨w.heap.size, 63, none⟩ 1 [48] Tryd.underlying142 Tryd.underlying5 Tryd.underlying9 (fun j hj => by
      have : j = 0 := by simp at hj; omega
      subst this
      rw [Addr.add_lit]
      exact hc)
  go_enter Tryd.func86, Tryd.ntmps86
  go_wp2
  refine wp_loop_rounds 1 ?_
  rw [rounds_succ]
  go_wp2
  go_ret
  exact ⟨rfl, ((Below.refl _ _).alloc (Nat.le_refl _) _)⟩

theorem DigitsZero_any (w : World) : Calls Tryd.prog 62 #[.int .i64 0] w fun e w' => e = .returned (S [48]) ∧ Below w.heap.size w w' := by
  go_enter Tryd.func62, Tryd.ntmps62
  go_wp2_with fail
  refine (digitsZero_any w).mono ?_
  rintro e w1 ⟨rfl, hb1⟩
  go_wp2
  go_ret
  exact ⟨rfl, hb1⟩

/-- Has the client what the tag says? -/
def metT (tags : List Bytes) (ok : Bool) (tag : Bytes) : Bool := tags.any fun t => t == [42] || (ok && alikeB t tag)
theorem metT_at {tags : List Bytes} {ok : Bool} {tag : Bytes} {k : Nat} (h : k < tags.length) (e : (tags[k] == [42] || (ok && alikeB tags[k] tag)) = true) : metT tags ok tag = true := by
  rw [metT, List.any_eq_true]
  exact ⟨_, List.getElem_mem h, e⟩
def NoMet (tags : List Bytes) (ok : Bool) (tag : Bytes) (k : Nat) : Prop := ∀ j (h : j < tags.length), j < k → (tags[j] == [42] || (ok && alikeB tags[j] tag)) = false
theorem NoMet.zero (tags : List Bytes) (ok : Bool) (tag : Bytes) : NoMet tags ok tag 0 := fun _ _ h => by omega
theorem NoMet.succ {tags : List Bytes} {ok : Bool} {tag : Bytes} {k : Nat} (h : NoMet tags ok tag k) (hk : k < tags.length) (e : (tags[k] == [42] || (ok && alikeB tags[k] tag)) = false) : NoMet tags ok tag (k + 1) := fun j hj hlt => by
  by_cases e2 : j = k
  · subst e2; exact e
  · exact h j hj (by omega)
theorem NoMet.all {tags : List Bytes} {ok : Bool} {tag : Bytes} (h : NoMet tags ok tag tags.length) : metT tags ok tag = false := by
  rw [metT, List.any_eq_false]
  intro x hx
  obtain ⟨k, hk, rfl⟩ := List.mem_iff_getElem.1 hx
  simpa using h k hk hk

set_option maxRecDepth 100000 in
set_option maxHeartbeats 4000000 in
theorem metTag_any (r : Rq) (q : En) (lr lf : List F) (hm : r.m = [71, 69, 84] ∨ r.m = [72, 69, 65, 68]) (hst : q.st = 200) (hi : hasB lr ifNoneT = true) (w : World) (hr : Fs w.heap.size w r.v lr) (hf : Fs w.heap.size w q.vf lf) (hl : fsum lr ≤ 1099511627776) (hl2 : fsum lf ≤ 1099511627776) :
    Calls Tryd.prog 63 #[r.val, q.val] w fun e w' => e = .returned (.bool (metT (allOf lr ifNoneT) (oneB (values lf etagT)) (oneV (values lf etagT)))) ∧ Below w.heap.size w w' := by
  obtain ⟨pr, cr, hrv, -⟩ := hr.form
  obtain ⟨pf, cf, hfv, -⟩ := hf.form
  obtain ⟨rm, rs, ra, rp, rv⟩ := r
  obtain ⟨key, vp, st, vf, body, asked, came⟩ := q
  simp only at hrv hfv hr hf hm hst
  subst hrv hfv hst
  have hR := Blk.new w 67 #[S rm, S rs, S ra, S rp, .slice pr lr.length cr]
  have hbx : Below w.heap.size w (w.alloc (.cells #[S rm, S rs, S ra, S rp, .slice pr lr.length cr] 67)) := (Below.refl _ _).alloc (Nat.le_refl _) _
  have hQ := Blk.new (w.alloc (.cells #[S rm, S rs, S ra, S rp, .slice pr lr.length cr] 67)) 28 #[S key, vp, .int .i64 200, .slice pf lf.length cf, S body, .int .i64 asked, .int .i64 came]
  have hby := hbx.alloc hbx.size (.cells #[S key, vp, .int .i64 200, .slice pf lf.length cf, S body, .int .i64 asked, .int .i64 came] 28)
  have hr1 := (hr.below hby).mono hby.size
  have hf1 := (hf.below hby).mono hby.size
  have HI := Lib.hid hi
  have HT := ssum_all lr ifNoneT
  have HO := oneV_length (values lf etagT)
  have HV := ssum_values lf etagT
  clear hi hr hf hR hQ hbx
  simp only [Rq.val, En.val]
  have hme : ∃ b : Bool, (!rm == [71, 69, 84]) = b ∧ (b = true → (!rm == [72, 69, 65, 68]) = false) := by
    rcases hm with e | e
    · exact ⟨false, by simp [e], by simp⟩
    · exact ⟨true, by simp [e], fun _ => by simp [e]⟩
  obtain ⟨bm, hb1, hb2⟩ := hme
  clear hm
  cases bm
  all_goals
    first | have hb3 := hb2 rfl | skip
    clear hb2
    go_enter Tryd.func63, Tryd.ntmps63
    go_wp2_with fail
    go_quiet (fail)
    go_wp2_with fail
    have hr2 := hr1.drewN nq
    have hf2 := hf1.drewN nq
    have hw2 := Bl.drewN hby nq
    clear hr1 hf1 hby
    generalize ((w.alloc (.cells #[S rm, S rs, S ra, S rp, .slice pr lr.length cr] 67)).alloc (.cells #[S key, vp, .int .i64 200, .slice pf lf.length cf, S body, .int .i64 asked, .int .i64 came] 28)).drewN nq = w2 at *
    refine (has_any lr ifNoneT _ _ hr2 hl (by decide)).mono ?_
    rintro e w3 ⟨rfl, hb3⟩
    rw [HI.out]
    have hw3 := Bl.tr hw2 hb3
    have hr3 := (hr2.below hb3).mono hb3.size
    have hf3 := (hf2.below hb3).mono hb3.size
    clear hw2 hr2 hf2 hb3
    go_wp2_with fail
    refine (one_any lf etagT _ _ hf3 hl2 (by decide)).mono ?_
    rintro e w4 ⟨rfl, hb4⟩
    have hw4 := Bl.tr hw3 hb4
    have hr4 := (hr3.below hb4).mono hb4.size
    clear hw3 hr3 hf3 hb4
    generalize htag : oneV (values lf etagT) = tag at *
    generalize hok : oneB (values lf etagT) = ok at *
    have Htag := Lib.hid htag
    have Hok := Lib.hid hok
    clear htag hok
    go_wp2_with fail
    refine (All_any lr ifNoneT _ _ hr4 hl (by decide)).mono ?_
    rintro e w5 ⟨vt, rfl, hvt, hb5⟩
    have hw5 := Bl.tr hw4 hb5
    have ht5 := Ss.own hvt
    generalize htags : allOf lr ifNoneT = tags at *
    have Htags := Lib.hid htags
    clear hw4 hr4 hb5 hvt htags
    obtain ⟨pt, ct, rfl, hmt⟩ := ht5.form
    go_wp2
    go_loopw [43] (fun i wr => ∃ k : Nat, i = .int .i64 k ∧ k ≤ tags.length ∧ Hid (NoMet tags ok tag k) ∧ wr = w5) (fun i _ => tags.length - (intOf i).toNat)
    case atStart => exact ⟨0, rfl, Nat.zero_le _, NoMet.zero _ _ _, rfl⟩
    case round =>
      obtain ⟨k, rfl, hk, HN, hwe⟩ := hrel
      obtain rfl : w5 = wr := hwe.symm
      by_cases hlt : k < tags.length
      · obtain ⟨b, off, rfl, hbb, c0⟩ := ht5.at k hlt
        have hf := ssum_mem (List.getElem_mem hlt)
        by_cases hs : tags[k] = [42]
        · have HT := Lib.hid (metT_at (ok := ok) (tag := tag) hlt (by simp [hs]))
          have g : (tags[k] == [42]) = true := by simp [hs]
          clear hs
          go_wp2
          go_ret
          exact ⟨ret_bool (by rw [Htags.out, Htag.out, Hok.out]; exact HT.out.symm), hw5⟩
        · have g : (tags[k] == [42]) = false := by simp [hs]
          cases ok with
          | false =>
            have HN2 := Lib.hid (HN.out.succ hlt (by simp [hs]))
            clear hs
            go_wp2
            go_roundw
            case rel => exact ⟨k + 1, by go_num, by omega, HN2, trivial⟩
            case measure => simp [intOf]; omega
          | true =>
            cases ha : alikeB tags[k] tag with
            | true =>
              have HT := Lib.hid (metT_at (ok := true) (tag := tag) hlt (by simp [ha]))
              have HA := Lib.hid ha
              clear hs ha
              go_wp2_with fail
              refine (alike_any tags[k] tag w5).mono ?_
              rintro e w6 ⟨rfl, rfl⟩
              rw [HA.out]
              go_wp2
              go_ret
              exact ⟨ret_bool (by rw [Htags.out, Htag.out, Hok.out]; exact HT.out.symm), hw5⟩
            | false =>
              have HN2 := Lib.hid (HN.out.succ hlt (by simp [hs, ha]))
              have HA := Lib.hid ha
              clear hs ha
              go_wp2_with fail
              refine (alike_any tags[k] tag w5).mono ?_
              rintro e w6 ⟨rfl, rfl⟩
              rw [HA.out]
              go_wp2
              go_roundw
              case rel => exact ⟨k + 1, by go_num, by omega, HN2, trivial⟩
              case measure => simp [intOf]; omega
      · have hk' : k = tags.length := by omega
        subst hk'
        have HT := Lib.hid HN.out.all
        go_wp2
        go_ret
        exact ⟨ret_bool (by rw [Htags.out, Htag.out, Hok.out]; exact HT.out.symm), hw5⟩
end Go.Proofs.YtghggooaaefdcaaDoor
